/- Own frame, plain models and walks, part 3 (texts of this claim put together). -/
import Derived.Test.YtllblbkbglifjaaDoorP30b
namespace Go.Proofs.YtllblbkbglifjaaDoor
open Go.RowKit Go.Cf
set_option maxRecDepth 10000
set_option maxHeartbeats 8000000 in
theorem refWritten_any (A : Option Addr) (c : Nat) (l : List PN) (hlc : l.length ≤ c) (hcm : c ≤ maxLen) (hln : l.length ≤ 1000) (z : Nat) : ∀ (t : Tr) (v : Nat) (vi i : Int) (m : Nat) (w : World), v ≤ 2 → vi = 7 - (v : Int) → t.size = z → i = (m : Int) → Rdl w 0 4 pnCells A l → t.ok → At l m t →
    Calls Tryd.prog 15 #[.agg #[.slice A l.length c], .int .i64 i, .int .i64 vi] w fun e w' => e = .returned (.string (baL (showB t v))) ∧ Below w.heap.size w w' := by
  have hlm : l.length ≤ 9223372036854775807 := by have h9 := Nat.le_trans hlc hcm; unfold maxLen at h9; omega
  refine Nat.strongRecOn z ?_
  intro z ih t v vi i m w hv hvi hz hi hl hok hat
  have hm1 := hat.lt
  obtain ⟨ad, rfl, -, hca⟩ := hl.at_ hm1
  obtain ⟨hsm, hbg⟩ := tree_at hok hat hm1
  have hsz := hat.size_le
  have hps := t.pos
  have hSP := show_par hok hv
  have hkt := kind_at hat hm1
  rw [← hkt] at hSP
  have hlen := showB_len t 0 hok
  have hsz2 := hat.size_le
  have hkind : 1 ≤ l[m].kind ∧ l[m].kind ≤ 7 := by
    by_cases h : l[m].kind < 5
    · have h9 := (hsm h).2.2.2.1; omega
    · have h9 := (hbg h).2.1; omega
  have hlk := lvK_is l[m].kind
  refine gcalls Tryd.func15 rfl Tryd.ntmps15 (Nat.le_of_ble_eq_true rfl) ?_
  refine gfrom [(0, .agg #[_]), (1, .int _ _), (2, .int _ _)] ⟨rfl, rfl, rfl, trivial⟩ fun σ => ?_
  refine gseq fun N1 hN1 => ?_
  refine greg ?_
  refine gop_box (v := .agg #[_]) (cs := #[_]) rfl rfl rfl (fun b3 hb3 => ?_)
  refine gop (y_assign (v := .string _) rfl) rfl rfl rfl ?_
  refine gops_nil ?_
  refine hN1 _ _ ?_
  refine gT [box b3 _] rfl ?_
  refine gfrom [(1, .int _ _), (2, .int _ _), (3, .pointer _)] ⟨rfl, rfl, rfl, trivial⟩ fun σ => ?_
  refine gseq fun N2 hN2 => ?_
  refine greg ?_
  refine gop (y_fieldAddr_box fa24_0 rfl) rfl rfl rfl ?_
  refine gop (y_load Tryd.isAgg22 rfl (cell_box 0 rfl rfl)) rfl rfl rfl ?_
  refine gop (y_move (v := .int _ _) rfl) rfl rfl rfl ?_
  refine gop (y_indexAddr (m := m) Tryd.underlying22 Tryd.sizeOf47 rfl rfl (by omega) (by omega) (by omega)) rfl rfl rfl ?_
  refine gop (y_loads (cs := [_, _, _, _]) Tryd.isAgg47 Tryd.sizeOf47 rfl rfl (cells_base hca)) rfl rfl rfl ?_
  refine gop_alloc (cs := #[.int .i64 0, .int .i64 0, .int .i64 0, .int .i64 0]) Tryd.zeroValue47 rfl rfl (fun b7 hb7 => ?_)
  refine gop_store 1 (v := .agg #[_, _, _, _]) (cs' := #[_, _, _, _]) rfl rfl Tryd.sizeOf47 rfl rfl rfl rfl (Nat.le_of_ble_eq_true rfl) rfl rfl ?_
  refine gops_nil ?_
  refine hN2 _ _ ?_
  refine gT [box b3 _, box b7 _] rfl ?_
  refine gfrom [(2, .int _ _), (3, .pointer _), (7, .pointer _)] ⟨rfl, rfl, rfl, trivial⟩ fun σ => ?_
  refine gseq fun N3 hN3 => ?_
  refine greg ?_
  refine gop (y_assign (v := .string _) rfl) rfl rfl rfl ?_
  refine gops_nil ?_
  refine hN3 _ _ ?_
  refine gfrom [(2, .int _ _), (3, .pointer _), (7, .pointer _), (8, .string _)] ⟨rfl, rfl, rfl, rfl, trivial⟩ fun σ => ?_
  refine gseq fun N4 hN4 => ?_
  refine greg ?_
  refine gop (y_assign (v := .string _) rfl) rfl rfl rfl ?_
  refine gops_nil ?_
  refine hN4 _ _ ?_
  refine gfrom [(2, .int _ _), (3, .pointer _), (7, .pointer _), (8, .string _), (9, .string _)] ⟨rfl, rfl, rfl, rfl, rfl, trivial⟩ fun σ => ?_
  refine gseq fun N5 hN5 => ?_
  refine gfrom [(2, .int _ _), (3, .pointer _), (7, .pointer _), (8, .string _), (9, .string _)] ⟨rfl, rfl, rfl, rfl, rfl, trivial⟩ fun σ => ?_
  refine gcut3 (Lf := [(2, .int _ _), (3, .pointer _), (7, .pointer _), (8, .string _)]) (G := Unit) (fun g => True) (fun g => [(9, .string (if l[m].kind ≤ 1 then baL (showB t 0) else ⟨#[]⟩))]) (fun g => []) ⟨rfl, rfl, rfl, rfl, trivial⟩ ?_ ?_
  ·
    refine gseq fun N6 hN6 => ?_
    refine greg ?_
    refine gop (y_fieldAddr_box fa47_0 rfl) rfl rfl rfl ?_
    refine gop (y_load Tryd.isAgg3 rfl (cell_box 1 rfl rfl)) rfl rfl rfl ?_
    refine gop (y_eql rfl rfl) rfl rfl rfl ?_
    refine gops_nil ?_
    refine hN6 _ _ ?_
    refine gfrom [(2, .int _ _), (3, .pointer _), (7, .pointer _), (8, .string _), (9, .string _), (17, .bool _)] ⟨rfl, rfl, rfl, rfl, rfl, rfl, trivial⟩ fun σ => ?_
    refine gcond (b := _) rfl (fun hc17 => ?_) (fun hc17 => ?_)
    · 
      replace hc17 := of_decide_eq_true hc17
      obtain ⟨-, -, htl, -, hn0, hn1⟩ := hsm (by omega)
      have hmn := mostN_le l[m].kind
      have hdl : (Lib.decDigits l[m].number.toNat).length = 1 := by rw [dig_one hn0 (by omega)]; rfl
      have h0 : showB t 0 = tScore ++ Lib.decDigits l[m].number.toNat := by rw [htl, showB, if_pos hc17]
      refine greg ?_
      refine gop (y_move (v := .string _) rfl) rfl rfl rfl ?_
      refine gop (y_fieldAddr_box fa47_1 rfl) rfl rfl rfl ?_
      refine gop (y_load Tryd.isAgg3 rfl (cell_box 1 rfl rfl)) rfl rfl rfl ?_
      refine gop (y_fieldAddr_box fa47_1 rfl) rfl rfl rfl ?_
      refine gop (y_load Tryd.isAgg3 rfl (cell_box 1 rfl rfl)) rfl rfl rfl ?_
      refine gop (y_add rfl rfl ⟨by omega, by omega⟩) rfl rfl rfl ?_
      refine gop (y_strslice Tryd.underlying9 rfl rfl rfl (by omega) (by omega) (by show _ ≤ (9 : Int); omega)) rfl rfl rfl ?_
      refine gop (y_cat rfl rfl (by rw [dig_cut hn0 (by omega), baL_size]; show 6 + _ ≤ _; omega)) rfl rfl rfl ?_
      refine gop (y_assign (v := .string _) rfl) rfl rfl rfl ?_
      refine gops_nil ?_
      refine gcut3_end (()) (trivial) ⟨(congrArg Value.string (by first | (rw [if_pos (by omega)]; rw [h0]; first | rfl | (rw [dig_cut hn0 (by omega)]; exact baL_app _ _) | exact baL_app _ _ | (rw [← baL_app, ← baL_app]; rfl)) | exact upto_step rfl (by omega) | (rw [if_neg (by omega)]; done) | (rw [if_pos (by omega)]; done))), trivial⟩ ⟨rfl, rfl, rfl, rfl, trivial⟩ ⟨_, rfl⟩
    · 
      replace hc17 := of_decide_eq_false hc17
      refine gskip ?_
      refine gcut3_end (()) (trivial) ⟨(congrArg Value.string (by first | (rw [if_pos (by omega)]; rw [h0]; first | rfl | (rw [dig_cut hn0 (by omega)]; exact baL_app _ _) | exact baL_app _ _ | (rw [← baL_app, ← baL_app]; rfl)) | exact upto_step rfl (by omega) | (rw [if_neg (by omega)]; done) | (rw [if_pos (by omega)]; done))), trivial⟩ ⟨rfl, rfl, rfl, rfl, trivial⟩ ⟨_, rfl⟩
  ·
    intro g hcut σ
    refine hN5 _ _ ?_
    refine gseq fun N7 hN7 => ?_
    refine gT [box b3 _, box b7 _] rfl ?_
    refine gfrom [(2, .int _ _), (3, .pointer _), (7, .pointer _), (8, .string _), (9, .string _)] ⟨rfl, rfl, rfl, rfl, rfl, trivial⟩ fun σ => ?_
    refine gcut3 (Lf := [(2, .int _ _), (3, .pointer _), (7, .pointer _), (8, .string _)]) (G := Unit) (fun g => True) (fun g => [(9, .string (if l[m].kind ≤ 2 then baL (showB t 0) else ⟨#[]⟩))]) (fun g => []) ⟨rfl, rfl, rfl, rfl, trivial⟩ ?_ ?_
    ·
      refine gseq fun N8 hN8 => ?_
      refine greg ?_
      refine gop (y_fieldAddr_box fa47_0 rfl) rfl rfl rfl ?_
      refine gop (y_load Tryd.isAgg3 rfl (cell_box 1 rfl rfl)) rfl rfl rfl ?_
      refine gop (y_eql rfl rfl) rfl rfl rfl ?_
      refine gops_nil ?_
      refine hN8 _ _ ?_
      refine gfrom [(2, .int _ _), (3, .pointer _), (7, .pointer _), (8, .string _), (9, .string _), (28, .bool _)] ⟨rfl, rfl, rfl, rfl, rfl, rfl, trivial⟩ fun σ => ?_
      refine gcond (b := _) rfl (fun hc28 => ?_) (fun hc28 => ?_)
      · 
        replace hc28 := of_decide_eq_true hc28
        obtain ⟨-, -, htl, -, hn0, hn1⟩ := hsm (by omega)
        have hmn := mostN_le l[m].kind
        have hdl : (Lib.decDigits l[m].number.toNat).length = 1 := by rw [dig_one hn0 (by omega)]; rfl
        have h0 : showB t 0 = tOwners := by rw [htl, showB, if_neg (by omega), if_neg (by omega), if_pos hc28]
        refine greg ?_
        refine gop (y_assign (v := .string _) rfl) rfl rfl rfl ?_
        refine gops_nil ?_
        refine gcut3_end (()) (trivial) ⟨(congrArg Value.string (by first | (rw [if_pos (by omega)]; rw [h0]; first | rfl | (rw [dig_cut hn0 (by omega)]; exact baL_app _ _) | exact baL_app _ _ | (rw [← baL_app, ← baL_app]; rfl)) | exact upto_step rfl (by omega) | (rw [if_neg (by omega)]; done) | (rw [if_pos (by omega)]; done))), trivial⟩ ⟨rfl, rfl, rfl, rfl, trivial⟩ ⟨_, rfl⟩
      · 
        replace hc28 := of_decide_eq_false hc28
        refine gskip ?_
        refine gcut3_end (()) (trivial) ⟨(congrArg Value.string (by first | (rw [if_pos (by omega)]; rw [h0]; first | rfl | (rw [dig_cut hn0 (by omega)]; exact baL_app _ _) | exact baL_app _ _ | (rw [← baL_app, ← baL_app]; rfl)) | exact upto_step rfl (by omega) | (rw [if_neg (by omega)]; done) | (rw [if_pos (by omega)]; done))), trivial⟩ ⟨rfl, rfl, rfl, rfl, trivial⟩ ⟨_, rfl⟩
    ·
      intro g hcut σ
      refine hN7 _ _ ?_
      refine gseq fun N9 hN9 => ?_
      refine gT [box b3 _, box b7 _] rfl ?_
      refine gfrom [(2, .int _ _), (3, .pointer _), (7, .pointer _), (8, .string _), (9, .string _)] ⟨rfl, rfl, rfl, rfl, rfl, trivial⟩ fun σ => ?_
      refine gcut3 (Lf := [(2, .int _ _), (3, .pointer _), (7, .pointer _), (8, .string _)]) (G := Unit) (fun g => True) (fun g => [(9, .string (if l[m].kind ≤ 3 then baL (showB t 0) else ⟨#[]⟩))]) (fun g => []) ⟨rfl, rfl, rfl, rfl, trivial⟩ ?_ ?_
      ·
        refine gseq fun N10 hN10 => ?_
        refine greg ?_
        refine gop (y_fieldAddr_box fa47_0 rfl) rfl rfl rfl ?_
        refine gop (y_load Tryd.isAgg3 rfl (cell_box 1 rfl rfl)) rfl rfl rfl ?_
        refine gop (y_eql rfl rfl) rfl rfl rfl ?_
        refine gops_nil ?_
        refine hN10 _ _ ?_
        refine gfrom [(2, .int _ _), (3, .pointer _), (7, .pointer _), (8, .string _), (9, .string _), (31, .bool _)] ⟨rfl, rfl, rfl, rfl, rfl, rfl, trivial⟩ fun σ => ?_
        refine gcond (b := _) rfl (fun hc31 => ?_) (fun hc31 => ?_)
        · 
          replace hc31 := of_decide_eq_true hc31
          obtain ⟨-, -, htl, -, hn0, hn1⟩ := hsm (by omega)
          have hmn := mostN_le l[m].kind
          have hdl : (Lib.decDigits l[m].number.toNat).length = 1 := by rw [dig_one hn0 (by omega)]; rfl
          have h0 : showB t 0 = tTests := by rw [htl, showB, if_neg (by omega), if_neg (by omega), if_neg (by omega)]
          refine greg ?_
          refine gop (y_assign (v := .string _) rfl) rfl rfl rfl ?_
          refine gops_nil ?_
          refine gcut3_end (()) (trivial) ⟨(congrArg Value.string (by first | (rw [if_pos (by omega)]; rw [h0]; first | rfl | (rw [dig_cut hn0 (by omega)]; exact baL_app _ _) | exact baL_app _ _ | (rw [← baL_app, ← baL_app]; rfl)) | exact upto_step rfl (by omega) | (rw [if_neg (by omega)]; done) | (rw [if_pos (by omega)]; done))), trivial⟩ ⟨rfl, rfl, rfl, rfl, trivial⟩ ⟨_, rfl⟩
        · 
          replace hc31 := of_decide_eq_false hc31
          refine gskip ?_
          refine gcut3_end (()) (trivial) ⟨(congrArg Value.string (by first | (rw [if_pos (by omega)]; rw [h0]; first | rfl | (rw [dig_cut hn0 (by omega)]; exact baL_app _ _) | exact baL_app _ _ | (rw [← baL_app, ← baL_app]; rfl)) | exact upto_step rfl (by omega) | (rw [if_neg (by omega)]; done) | (rw [if_pos (by omega)]; done))), trivial⟩ ⟨rfl, rfl, rfl, rfl, trivial⟩ ⟨_, rfl⟩
      ·
        intro g hcut σ
        refine hN9 _ _ ?_
        refine gseq fun N11 hN11 => ?_
        refine gT [box b3 _, box b7 _] rfl ?_
        refine gfrom [(2, .int _ _), (3, .pointer _), (7, .pointer _), (8, .string _), (9, .string _)] ⟨rfl, rfl, rfl, rfl, rfl, trivial⟩ fun σ => ?_
        refine gcut3 (Lf := [(2, .int _ _), (3, .pointer _), (7, .pointer _)]) (G := Unit) (fun g => True) (fun g => [(9, .string (if l[m].kind ≤ 4 then baL (showB t 0) else ⟨#[]⟩))]) (fun g => []) ⟨rfl, rfl, rfl, trivial⟩ ?_ ?_
        ·
          refine gseq fun N12 hN12 => ?_
          refine greg ?_
          refine gop (y_fieldAddr_box fa47_0 rfl) rfl rfl rfl ?_
          refine gop (y_load Tryd.isAgg3 rfl (cell_box 1 rfl rfl)) rfl rfl rfl ?_
          refine gop (y_eql rfl rfl) rfl rfl rfl ?_
          refine gops_nil ?_
          refine hN12 _ _ ?_
          refine gfrom [(2, .int _ _), (3, .pointer _), (7, .pointer _), (8, .string _), (9, .string _), (34, .bool _)] ⟨rfl, rfl, rfl, rfl, rfl, rfl, trivial⟩ fun σ => ?_
          refine gcond (b := _) rfl (fun hc34 => ?_) (fun hc34 => ?_)
          · 
            replace hc34 := of_decide_eq_true hc34
            obtain ⟨-, -, htl, -, hn0, hn1⟩ := hsm (by omega)
            have hmn := mostN_le l[m].kind
            have hdl : (Lib.decDigits l[m].number.toNat).length = 1 := by rw [dig_one hn0 (by omega)]; rfl
            have h0 : showB t 0 = tUser ++ Lib.decDigits l[m].number.toNat := by rw [htl, showB, if_neg (by omega), if_pos hc34]
            refine greg ?_
            refine gop (y_move (v := .string _) rfl) rfl rfl rfl ?_
            refine gop (y_fieldAddr_box fa47_1 rfl) rfl rfl rfl ?_
            refine gop (y_load Tryd.isAgg3 rfl (cell_box 1 rfl rfl)) rfl rfl rfl ?_
            refine gop (y_fieldAddr_box fa47_1 rfl) rfl rfl rfl ?_
            refine gop (y_load Tryd.isAgg3 rfl (cell_box 1 rfl rfl)) rfl rfl rfl ?_
            refine gop (y_add rfl rfl ⟨by omega, by omega⟩) rfl rfl rfl ?_
            refine gop (y_strslice Tryd.underlying9 rfl rfl rfl (by omega) (by omega) (by show _ ≤ (9 : Int); omega)) rfl rfl rfl ?_
            refine gop (y_cat rfl rfl (by rw [dig_cut hn0 (by omega), baL_size]; show 5 + _ ≤ _; omega)) rfl rfl rfl ?_
            refine gop (y_assign (v := .string _) rfl) rfl rfl rfl ?_
            refine gops_nil ?_
            refine gcut3_end (()) (trivial) ⟨(congrArg Value.string (by first | (rw [if_pos (by omega)]; rw [h0]; first | rfl | (rw [dig_cut hn0 (by omega)]; exact baL_app _ _) | exact baL_app _ _ | (rw [← baL_app, ← baL_app]; rfl)) | exact upto_step rfl (by omega) | (rw [if_neg (by omega)]; done) | (rw [if_pos (by omega)]; done))), trivial⟩ ⟨rfl, rfl, rfl, trivial⟩ ⟨_, rfl⟩
          · 
            replace hc34 := of_decide_eq_false hc34
            refine gskip ?_
            refine gcut3_end (()) (trivial) ⟨(congrArg Value.string (by first | (rw [if_pos (by omega)]; rw [h0]; first | rfl | (rw [dig_cut hn0 (by omega)]; exact baL_app _ _) | exact baL_app _ _ | (rw [← baL_app, ← baL_app]; rfl)) | exact upto_step rfl (by omega) | (rw [if_neg (by omega)]; done) | (rw [if_pos (by omega)]; done))), trivial⟩ ⟨rfl, rfl, rfl, trivial⟩ ⟨_, rfl⟩
        ·
          intro g hcut σ
          refine hN11 _ _ ?_
          refine gseq fun N13 hN13 => ?_
          refine gT [box b3 _, box b7 _] rfl ?_
          refine gfrom [(2, .int _ _), (3, .pointer _), (7, .pointer _), (9, .string _)] ⟨rfl, rfl, rfl, rfl, trivial⟩ fun σ => ?_
          refine gcut3 (Lf := [(2, .int _ _), (3, .pointer _), (7, .pointer _)]) (G := Unit) (fun g => True) (fun g => [(9, .string (if l[m].kind ≤ 5 then baL (showB t 0) else ⟨#[]⟩))]) (fun g => []) ⟨rfl, rfl, rfl, trivial⟩ ?_ ?_
          ·
            refine gseq fun N14 hN14 => ?_
            refine greg ?_
            refine gop (y_fieldAddr_box fa47_0 rfl) rfl rfl rfl ?_
            refine gop (y_load Tryd.isAgg3 rfl (cell_box 1 rfl rfl)) rfl rfl rfl ?_
            refine gop (y_eql rfl rfl) rfl rfl rfl ?_
            refine gops_nil ?_
            refine hN14 _ _ ?_
            refine gfrom [(2, .int _ _), (3, .pointer _), (7, .pointer _), (9, .string _), (45, .bool _)] ⟨rfl, rfl, rfl, rfl, rfl, trivial⟩ fun σ => ?_
            refine gcond (b := _) rfl (fun hc45 => ?_) (fun hc45 => ?_)
            · 
              replace hc45 := of_decide_eq_true hc45
              have hnk : ¬ l[m].kind < 5 := by omega
              obtain ⟨hi1, hk7, d, q, hdo, hdt, hdl, hds, hdq, h5, h67⟩ := tree_big hok hat hm1 hnk
              have hdp := depth_pos d
              have hdz := hdt.size_le
              have hl0 := showB_len d 0 hdo
              have hl1 := showB_len d 1 hdo
              have hl2 := showB_len d 2 hdo
              have h0 : showB t 0 = tNot ++ showB d 2 := by rw [h5 hc45, showB]
              refine greg ?_
              refine gop (y_loads (cs := [_]) Tryd.isAgg24 Tryd.sizeOf24 rfl rfl (cells_box 0 rfl)) rfl rfl rfl ?_
              refine gop (y_fieldAddr_box fa47_2 rfl) rfl rfl rfl ?_
              refine gop (y_load Tryd.isAgg3 rfl (cell_box 1 rfl rfl)) rfl rfl rfl ?_
              refine gop_pure (e_call (vs := [.agg #[_], .int _ _, _]) Tryd.func15 rfl (by kernel_rfl) rfl) (fun w hM => ih d.size (by omega) d 2 _ _ q w (by omega) (by omega) rfl hdl (hl.base hM) hdo hdt) rfl rfl rfl ?_
              refine gop (y_cat rfl rfl (by rw [baL_size]; show 4 + _ ≤ _; omega)) rfl rfl rfl ?_
              refine gop (y_assign (v := .string _) rfl) rfl rfl rfl ?_
              refine gops_nil ?_
              refine gcut3_end (()) (trivial) ⟨(congrArg Value.string (by first | (rw [if_pos (by omega)]; rw [h0]; first | rfl | (rw [dig_cut hn0 (by omega)]; exact baL_app _ _) | exact baL_app _ _ | (rw [← baL_app, ← baL_app]; rfl)) | exact upto_step rfl (by omega) | (rw [if_neg (by omega)]; done) | (rw [if_pos (by omega)]; done))), trivial⟩ ⟨rfl, rfl, rfl, trivial⟩ ⟨_, rfl⟩
            · 
              replace hc45 := of_decide_eq_false hc45
              refine gskip ?_
              refine gcut3_end (()) (trivial) ⟨(congrArg Value.string (by first | (rw [if_pos (by omega)]; rw [h0]; first | rfl | (rw [dig_cut hn0 (by omega)]; exact baL_app _ _) | exact baL_app _ _ | (rw [← baL_app, ← baL_app]; rfl)) | exact upto_step rfl (by omega) | (rw [if_neg (by omega)]; done) | (rw [if_pos (by omega)]; done))), trivial⟩ ⟨rfl, rfl, rfl, trivial⟩ ⟨_, rfl⟩
          ·
            intro g hcut σ
            refine hN13 _ _ ?_
            refine gseq fun N15 hN15 => ?_
            refine gT [box b3 _, box b7 _] rfl ?_
            refine gfrom [(2, .int _ _), (3, .pointer _), (7, .pointer _), (9, .string _)] ⟨rfl, rfl, rfl, rfl, trivial⟩ fun σ => ?_
            refine gcut3 (Lf := [(2, .int _ _), (3, .pointer _), (7, .pointer _)]) (G := Unit) (fun g => True) (fun g => [(9, .string (if l[m].kind ≤ 6 then baL (showB t 0) else ⟨#[]⟩))]) (fun g => []) ⟨rfl, rfl, rfl, trivial⟩ ?_ ?_
            ·
              refine gseq fun N16 hN16 => ?_
              refine greg ?_
              refine gop (y_fieldAddr_box fa47_0 rfl) rfl rfl rfl ?_
              refine gop (y_load Tryd.isAgg3 rfl (cell_box 1 rfl rfl)) rfl rfl rfl ?_
              refine gop (y_eql rfl rfl) rfl rfl rfl ?_
              refine gops_nil ?_
              refine hN16 _ _ ?_
              refine gfrom [(2, .int _ _), (3, .pointer _), (7, .pointer _), (9, .string _), (53, .bool _)] ⟨rfl, rfl, rfl, rfl, rfl, trivial⟩ fun σ => ?_
              refine gcond (b := _) rfl (fun hc53 => ?_) (fun hc53 => ?_)
              · 
                replace hc53 := of_decide_eq_true hc53
                have hnk : ¬ l[m].kind < 5 := by omega
                obtain ⟨hi1, hk7, d, q, hdo, hdt, hdl, hds, hdq, h5, h67⟩ := tree_big hok hat hm1 hnk
                have hdp := depth_pos d
                have hdz := hdt.size_le
                have hl0 := showB_len d 0 hdo
                have hl1 := showB_len d 1 hdo
                have hl2 := showB_len d 2 hdo
                obtain ⟨b, hbo, hbt, hbs, hbr, he⟩ := h67 (by omega)
                have hbl1 := showB_len b 1 hbo
                have hbl2 := showB_len b 2 hbo
                have hbz := hbt.size_le
                have h0 : showB t 0 = showB d 1 ++ tAnd ++ showB b 2 := by rw [he, hc53, show_and]
                refine greg_q (by kernel_rfl) (by kernel_rfl) ?_
                refine gq (y_loads (cs := [_]) Tryd.isAgg24 Tryd.sizeOf24 rfl rfl (cells_box 0 rfl)) rfl rfl rfl ?_
                refine gq (y_fieldAddr_box fa47_2 rfl) rfl rfl rfl ?_
                refine gq (y_load Tryd.isAgg3 rfl (cell_box 1 rfl rfl)) rfl rfl rfl ?_
                refine gq_pure (e_call (vs := [.agg #[_], .int _ _, _]) Tryd.func15 rfl (by kernel_rfl) rfl) (fun w hM => ih d.size (by omega) d 1 _ _ q w (by omega) (by omega) rfl hdl (hl.base hM) hdo hdt) rfl rfl rfl ?_
                refine gq (y_cat rfl rfl (by rw [baL_size]; show _ + 5 ≤ _; omega)) rfl rfl rfl ?_
                refine gq (y_loads (cs := [_]) Tryd.isAgg24 Tryd.sizeOf24 rfl rfl (cells_box 0 rfl)) rfl rfl rfl ?_
                refine gq (y_fieldAddr_box fa47_3 rfl) rfl rfl rfl ?_
                refine gq (y_load Tryd.isAgg3 rfl (cell_box 1 rfl rfl)) rfl rfl rfl ?_
                refine gq_pure (e_call (vs := [.agg #[_], .int _ _, _]) Tryd.func15 rfl (by kernel_rfl) rfl) (fun w hM => ih b.size (by omega) b 2 _ _ (m - 1) w (by omega) (by omega) rfl hbr (hl.base hM) hbo hbt) rfl rfl rfl ?_
                refine gq (y_cat rfl rfl (by rw [ByteArray.size_append, baL_size, baL_size]; show _ + 5 + _ ≤ _; omega)) rfl rfl rfl ?_
                refine gq (y_assign (v := .string _) rfl) rfl rfl rfl ?_
                refine gqs_nil ?_
                refine gcut3_end (()) (trivial) ⟨(congrArg Value.string (by first | (rw [if_pos (by omega)]; rw [h0]; first | rfl | (rw [dig_cut hn0 (by omega)]; exact baL_app _ _) | exact baL_app _ _ | (rw [← baL_app, ← baL_app]; rfl)) | exact upto_step rfl (by omega) | (rw [if_neg (by omega)]; done) | (rw [if_pos (by omega)]; done))), trivial⟩ ⟨rfl, rfl, rfl, trivial⟩ ⟨_, rfl⟩
              · 
                replace hc53 := of_decide_eq_false hc53
                refine gskip ?_
                refine gcut3_end (()) (trivial) ⟨(congrArg Value.string (by first | (rw [if_pos (by omega)]; rw [h0]; first | rfl | (rw [dig_cut hn0 (by omega)]; exact baL_app _ _) | exact baL_app _ _ | (rw [← baL_app, ← baL_app]; rfl)) | exact upto_step rfl (by omega) | (rw [if_neg (by omega)]; done) | (rw [if_pos (by omega)]; done))), trivial⟩ ⟨rfl, rfl, rfl, trivial⟩ ⟨_, rfl⟩
            ·
              intro g hcut σ
              refine hN15 _ _ ?_
              refine gseq fun N17 hN17 => ?_
              refine gT [box b3 _, box b7 _] rfl ?_
              refine gfrom [(2, .int _ _), (3, .pointer _), (7, .pointer _), (9, .string _)] ⟨rfl, rfl, rfl, rfl, trivial⟩ fun σ => ?_
              refine gcut3 (Lf := [(2, .int _ _), (7, .pointer _)]) (G := Unit) (fun g => True) (fun g => [(9, .string (baL (showB t 0)))]) (fun g => []) ⟨rfl, rfl, trivial⟩ ?_ ?_
              ·
                refine gseq fun N18 hN18 => ?_
                refine greg ?_
                refine gop (y_fieldAddr_box fa47_0 rfl) rfl rfl rfl ?_
                refine gop (y_load Tryd.isAgg3 rfl (cell_box 1 rfl rfl)) rfl rfl rfl ?_
                refine gop (y_eql rfl rfl) rfl rfl rfl ?_
                refine gops_nil ?_
                refine hN18 _ _ ?_
                refine gfrom [(2, .int _ _), (3, .pointer _), (7, .pointer _), (9, .string _), (66, .bool _)] ⟨rfl, rfl, rfl, rfl, rfl, trivial⟩ fun σ => ?_
                refine gcond (b := _) rfl (fun hc66 => ?_) (fun hc66 => ?_)
                · 
                  replace hc66 := of_decide_eq_true hc66
                  have hnk : ¬ l[m].kind < 5 := by omega
                  obtain ⟨hi1, hk7, d, q, hdo, hdt, hdl, hds, hdq, h5, h67⟩ := tree_big hok hat hm1 hnk
                  have hdp := depth_pos d
                  have hdz := hdt.size_le
                  have hl0 := showB_len d 0 hdo
                  have hl1 := showB_len d 1 hdo
                  have hl2 := showB_len d 2 hdo
                  obtain ⟨b, hbo, hbt, hbs, hbr, he⟩ := h67 (by omega)
                  have hbl1 := showB_len b 1 hbo
                  have hbl2 := showB_len b 2 hbo
                  have hbz := hbt.size_le
                  have h0 : showB t 0 = showB d 0 ++ tOr ++ showB b 1 := by rw [he, hc66, show_or]
                  refine greg_q (by kernel_rfl) (by kernel_rfl) ?_
                  refine gq (y_loads (cs := [_]) Tryd.isAgg24 Tryd.sizeOf24 rfl rfl (cells_box 0 rfl)) rfl rfl rfl ?_
                  refine gq (y_fieldAddr_box fa47_2 rfl) rfl rfl rfl ?_
                  refine gq (y_load Tryd.isAgg3 rfl (cell_box 1 rfl rfl)) rfl rfl rfl ?_
                  refine gq_pure (e_call (vs := [.agg #[_], .int _ _, _]) Tryd.func15 rfl (by kernel_rfl) rfl) (fun w hM => ih d.size (by omega) d 0 _ _ q w (by omega) (by omega) rfl hdl (hl.base hM) hdo hdt) rfl rfl rfl ?_
                  refine gq (y_cat rfl rfl (by rw [baL_size]; show _ + 4 ≤ _; omega)) rfl rfl rfl ?_
                  refine gq (y_loads (cs := [_]) Tryd.isAgg24 Tryd.sizeOf24 rfl rfl (cells_box 0 rfl)) rfl rfl rfl ?_
                  refine gq (y_fieldAddr_box fa47_3 rfl) rfl rfl rfl ?_
                  refine gq (y_load Tryd.isAgg3 rfl (cell_box 1 rfl rfl)) rfl rfl rfl ?_
                  refine gq_pure (e_call (vs := [.agg #[_], .int _ _, _]) Tryd.func15 rfl (by kernel_rfl) rfl) (fun w hM => ih b.size (by omega) b 1 _ _ (m - 1) w (by omega) (by omega) rfl hbr (hl.base hM) hbo hbt) rfl rfl rfl ?_
                  refine gq (y_cat rfl rfl (by rw [ByteArray.size_append, baL_size, baL_size]; show _ + 4 + _ ≤ _; omega)) rfl rfl rfl ?_
                  refine gq (y_assign (v := .string _) rfl) rfl rfl rfl ?_
                  refine gqs_nil ?_
                  refine gcut3_end (()) (trivial) ⟨(congrArg Value.string (by first | (rw [h0]; first | rfl | (rw [dig_cut hn0 (by omega)]; exact baL_app _ _) | exact baL_app _ _ | (rw [← baL_app, ← baL_app]; rfl)) | exact upto_step rfl (by omega) | (rw [if_neg (by omega)]; done) | (rw [if_pos (by omega)]; done))), trivial⟩ ⟨rfl, rfl, trivial⟩ ⟨_, rfl⟩
                · 
                  replace hc66 := of_decide_eq_false hc66
                  refine gskip ?_
                  refine gcut3_end (()) (trivial) ⟨(congrArg Value.string (by first | (rw [h0]; first | rfl | (rw [dig_cut hn0 (by omega)]; exact baL_app _ _) | exact baL_app _ _ | (rw [← baL_app, ← baL_app]; rfl)) | exact upto_step rfl (by omega) | (rw [if_neg (by omega)]; done) | (rw [if_pos (by omega)]; done))), trivial⟩ ⟨rfl, rfl, trivial⟩ ⟨_, rfl⟩
              ·
                intro g hcut σ
                refine hN17 _ _ ?_
                refine gseq fun N19 hN19 => ?_
                refine gseq fun N20 hN20 => ?_
                refine greg ?_
                refine gop (y_fieldAddr_box fa47_0 rfl) rfl rfl rfl ?_
                refine gop (y_load Tryd.isAgg3 rfl (cell_box 1 rfl rfl)) rfl rfl rfl ?_
                refine gop (y_move (v := .int _ _) rfl) rfl rfl rfl ?_
                refine gop (y_gtr rfl rfl) rfl rfl rfl ?_
                refine gops_nil ?_
                refine hN20 _ _ ?_
                refine gT [box b3 _, box b7 _] rfl ?_
                refine gfrom [(9, .string _), (80, .bool _)] ⟨rfl, rfl, trivial⟩ fun σ => ?_
                refine gcond (b := _) rfl (fun hc80 => ?_) (fun hc80 => ?_)
                · 
                  replace hc80 := of_decide_eq_true hc80
                  refine gseq fun N21 hN21 => ?_
                  refine greg ?_
                  refine gop (y_move (v := .string _) rfl) rfl rfl rfl ?_
                  refine gop (y_cat rfl rfl (by rw [baL_size]; show 1 + _ ≤ _; omega)) rfl rfl rfl ?_
                  refine gop (y_cat rfl rfl (by rw [ByteArray.size_append, baL_size]; show 1 + _ + 1 ≤ _; omega)) rfl rfl rfl ?_
                  refine gop (y_assign (v := .string _) rfl) rfl rfl rfl ?_
                  refine gops_nil ?_
                  refine hN21 _ _ ?_
                  refine gfrom [(6, .string _)] ⟨rfl, trivial⟩ fun σ => ?_
                  refine gret fun w1 hM => ?_
                  refine ⟨_, res1 rfl (rt (v := .string _) rfl), ?_⟩
                  exact ⟨by rw [hSP]; first | (rw [par_yes (by omega)]; done) | (rw [par_no (by omega)]; done), hM.low⟩
                · 
                  replace hc80 := of_decide_eq_false hc80
                  refine gskip ?_
                  refine hN19 _ _ ?_
                  refine gfrom [(9, .string _)] ⟨rfl, trivial⟩ fun σ => ?_
                  refine gseq fun N22 hN22 => ?_
                  refine greg ?_
                  refine gop (y_move (v := .string _) rfl) rfl rfl rfl ?_
                  refine gop (y_assign (v := .string _) rfl) rfl rfl rfl ?_
                  refine gops_nil ?_
                  refine hN22 _ _ ?_
                  refine gfrom [(6, .string _)] ⟨rfl, trivial⟩ fun σ => ?_
                  refine gret fun w1 hM => ?_
                  refine ⟨_, res1 rfl (rt (v := .string _) rfl), ?_⟩
                  exact ⟨by rw [hSP]; first | (rw [par_yes (by omega)]; done) | (rw [par_no (by omega)]; done), hM.low⟩
end Go.Proofs.YtllblbkbglifjaaDoor
namespace Go.Cf
open Go.RowKit
theorem want_last {r : List Int} {x : Int} : want (r ++ [x]) 1 0 = x ∧ want (r ++ [x]) 1 1 = 0 := by
  have h4 : (r ++ [x]).length - 1 = r.length := by simp
  rw [want, want, h4, List.drop_left]; exact ⟨rfl, rfl⟩
theorem want_two {r : List Int} {x y : Int} : want (r ++ [x] ++ [y]) 2 0 = x ∧ want (r ++ [x] ++ [y]) 2 1 = y := by
  have h4 : (r ++ [x] ++ [y]).length - 2 = r.length := by simp
  rw [want, want, h4, List.append_assoc, List.drop_left]; exact ⟨rfl, rfl⟩
theorem post_right {l : List PN} : ∀ (t : Tr) (k : Nat), t.ok → (l.drop k).take t.size = post t k →
    rootsTo l (k + t.size) = rootsTo l k ++ [((k + t.size : Nat) : Int) - 1] ∧ ∀ j, k ≤ j → j < k + t.size → chk (nAt l j) (rootsTo l j) = 0
  | .leaf kk n, k, ho, h => by
    obtain ⟨h1, h2, h3, h4⟩ := ho
    have hn : nAt l k = ⟨kk, n, 0, 0⟩ := by rw [nAt, one_at h]; rfl
    have h0 : opN kk = 0 := by rw [opN, if_neg (by omega), if_neg (by omega)]
    constructor
    · show rootsTo l (k + 1) = _
      rw [rootsTo, hn]
      show List.take (_ - opN kk) _ ++ _ = _
      rw [h0, Nat.sub_zero, List.take_length]
      congr 2
      simp only [Tr.size]; omega
    · intro j hj1 hj2
      simp only [Tr.size] at hj2
      obtain rfl : j = k := by omega
      rw [hn, chk_leaf (by simp only; omega) (by simp only; omega) (by simp only; omega), if_neg (by simp)]
  | .neg t, k, ho, h => by
    rw [size_neg, post] at h
    obtain ⟨h1, h2⟩ := take_part h (post_len t k)
    obtain ⟨h3, h4⟩ := post_right t k ho h1
    have hn : nAt l (k + t.size) = ⟨5, 0, ((k + t.size : Nat) : Int) - 1, 0⟩ := by rw [nAt, one_at h2]; rfl
    obtain ⟨w1, w2⟩ := want_last (r := rootsTo l k) (x := ((k + t.size : Nat) : Int) - 1)
    constructor
    · rw [size_neg, ← Nat.add_assoc, rootsTo, hn, h3]
      show List.take (_ - 1) _ ++ _ = _
      rw [show (rootsTo l k ++ [((k + t.size : Nat) : Int) - 1]).length - 1 = (rootsTo l k).length by simp, List.take_left]
      congr 2
      omega
    · intro j hj1 hj2
      rw [size_neg] at hj2
      rcases Nat.lt_or_ge j (k + t.size) with h5 | h5
      · exact h4 j hj1 h5
      · obtain rfl : j = k + t.size := by omega
        have e1 : opN 5 = 1 := rfl
        have e2 : mostN 5 = 0 := rfl
        rw [hn, h3, chk]
        simp only [e1, e2]
        rw [if_neg (by omega), if_neg (by omega), if_neg (by simp), w1, w2, if_neg (by simp)]
  | .bin kk a b, k, ho, h => by
    obtain ⟨hk, hoa, hob⟩ := ho
    rw [size_bin, post] at h
    obtain ⟨h0, h2⟩ := take_part h (show (post a k ++ post b (k + a.size)).length = a.size + b.size by rw [List.length_append, post_len, post_len])
    obtain ⟨h1, h1b⟩ := take_part h0 (post_len a k)
    rw [post_len] at h1b
    obtain ⟨h3, h4⟩ := post_right a k hoa h1
    obtain ⟨h5, h6⟩ := post_right b (k + a.size) hob h1b
    rw [← Nat.add_assoc] at h2
    have hn : nAt l (k + a.size + b.size) = ⟨kk, 0, ((k + a.size : Nat) : Int) - 1, ((k + a.size + b.size : Nat) : Int) - 1⟩ := by rw [nAt, one_at h2]; rfl
    obtain ⟨w1, w2⟩ := want_two (r := rootsTo l k) (x := ((k + a.size : Nat) : Int) - 1) (y := ((k + a.size + b.size : Nat) : Int) - 1)
    rw [h3] at h5
    have e1 : opN kk = 2 := by rcases hk with rfl | rfl <;> rfl
    have e2 : mostN kk = 0 := by rcases hk with rfl | rfl <;> rfl
    constructor
    · rw [size_bin, ← Nat.add_assoc, ← Nat.add_assoc, rootsTo, hn, h5]
      show List.take (_ - opN kk) _ ++ _ = _
      rw [e1, show (rootsTo l k ++ [((k + a.size : Nat) : Int) - 1] ++ [((k + a.size + b.size : Nat) : Int) - 1]).length - 2 = (rootsTo l k).length by simp, List.append_assoc, List.take_left]
      congr 2
      omega
    · intro j hj1 hj2
      rw [size_bin] at hj2
      rcases Nat.lt_or_ge j (k + a.size) with h7 | h7
      · exact h4 j hj1 h7
      · rcases Nat.lt_or_ge j (k + a.size + b.size) with h8 | h8
        · exact h6 j h7 h8
        · obtain rfl : j = k + a.size + b.size := by omega
          rw [hn, h5, chk]
          simp only [e1, e2]
          rw [if_neg (by omega), if_neg (by omega), if_neg (by simp), w1, w2, if_neg (by simp)]
theorem post_all (t : Tr) (ho : t.ok) : rootsTo (post t 0) t.size = [(t.size : Int) - 1] ∧ ∀ j (h : j < (post t 0).length), chk (post t 0)[j] (rootsTo (post t 0) j) = 0 := by
  obtain ⟨h1, h2⟩ := post_right (l := post t 0) t 0 ho (by rw [List.drop_zero, ← post_len t 0, List.take_length])
  rw [Nat.zero_add] at h1 h2
  refine ⟨h1, fun j h => ?_⟩
  rw [← nAt_at h]
  exact h2 j (Nat.zero_le _) (by rw [post_len] at h; exact h)
theorem depL_post {t : Tr} (ho : t.ok) : depL (post t 0) = t.depth := by
  rw [depL, post_len]; exact dep_at t _ ho (At.whole t)
theorem polF_post {t : Tr} (ho : t.ok) : polF (post t 0) = if 24 < t.size then ⟨2, -1⟩ else if 12 < t.depth then ⟨10, -1⟩ else ⟨0, 0⟩ := by
  obtain ⟨h1, h2⟩ := post_all t ho
  have := t.pos
  have h3 : scanP_ (post t 0) = ⟨0, 0⟩ := scan_ok h2
  rw [polF, post_len, if_neg (by omega), h3, depL_post ho, h1]
  split
  · rfl
  · rw [if_neg (fun h => h rfl), if_neg (by simp)]
theorem polF_made {t : Tr} (ho : t.ok) : ((polF (post t 0)).code ≠ 0 ↔ (24 < t.size ∨ 12 < t.depth)) ∧ (¬ (24 < t.size ∨ 12 < t.depth) → polF (post t 0) = ⟨0, 0⟩) := by
  rw [polF_post ho]
  constructor
  · split
    · simp_all
    · split
      · simp_all
      · simp_all
  · intro h
    rw [if_neg (by omega), if_neg (by omega)]
def push (n : PN) : List Tr → List Tr
  | [] => [.leaf n.kind n.number]
  | [a] => if n.kind = 5 then [.neg a] else [.leaf n.kind n.number, a]
  | b :: a :: s => if n.kind = 5 then .neg b :: a :: s else if n.kind < 5 then .leaf n.kind n.number :: b :: a :: s else .bin n.kind a b :: s
def stk : List PN → List Tr → List Tr
  | [], s => s
  | n :: l, s => stk l (push n s)
def treeOf (l : List PN) : Tr := (stk l []).headD (.leaf 1 0)
theorem push_leaf {k n : Int} (h : k ≤ 4) (s : List Tr) : push ⟨k, n, 0, 0⟩ s = .leaf k n :: s := by
  match s with
  | [] => rfl
  | [a] => rw [push, if_neg (by simp only; omega)]
  | b :: a :: s => rw [push, if_neg (by simp only; omega), if_pos (by simp only; omega)]
theorem push_neg {i : Int} (t : Tr) (s : List Tr) : push ⟨5, 0, i, 0⟩ (t :: s) = .neg t :: s := by
  cases s with
  | nil => rw [push, if_pos rfl]
  | cons a s => rw [push, if_pos rfl]
theorem stk_post : ∀ (t : Tr) (off : Nat) (l : List PN) (s : List Tr), t.ok → stk (post t off ++ l) s = stk l (t :: s)
  | .leaf k n, off, l, s, h => by
    show stk l (push ⟨k, n, 0, 0⟩ s) = _
    rw [push_leaf h.2.1]
  | .neg t, off, l, s, h => by
    rw [post, List.append_assoc, stk_post t _ _ _ h]
    show stk l (push _ (t :: s)) = _
    rw [push_neg]
  | .bin k a b, off, l, s, h => by
    rw [post, List.append_assoc, List.append_assoc, stk_post a _ _ _ h.2.1, stk_post b _ _ _ h.2.2]
    show stk l (push _ (b :: a :: s)) = _
    have hk := h.1
    rw [push, if_neg (by simp only; omega), if_neg (by simp only; omega)]
theorem treeOf_post {t : Tr} (h : t.ok) : treeOf (post t 0) = t := by
  have := stk_post t 0 [] [] h
  rw [List.append_nil] at this
  rw [treeOf, this]; rfl
theorem IsTr.tree {l : List PN} {t : Tr} (h : IsTr l t) : treeOf l = t := by rw [h.eq, treeOf_post h.ok]
theorem tree_of {l : List PN} (h : polF l = ⟨0, 0⟩) : IsTr l (treeOf l) := by
  obtain ⟨t, ht⟩ := pol_tree h
  rw [ht.tree]; exact ht
def fmtR (l : List PN) : Fault × List UInt8 := if polF l ≠ ⟨0, 0⟩ then (polF l, []) else if 200 < (showB (treeOf l) 0).length then (⟨10, -1⟩, []) else (⟨0, 0⟩, showB (treeOf l) 0)
def norR (l : List PN) : Fault × List PN := if polF l ≠ ⟨0, 0⟩ then (polF l, []) else madeR (nrm (treeOf l) false)
end Go.Cf
namespace Go.Cf
open Go.RowKit
theorem opN_one {k : Int} (h : opN k = 1) : k = 5 := by
  unfold opN at h
  split at h
  · assumption
  · split at h <;> omega
theorem opN_two {k : Int} (h : opN k = 2) : k = 6 ∨ k = 7 := by
  unfold opN at h
  split at h
  · omega
  · split at h
    · assumption
    · omega
theorem opN_zero {k : Int} (h1 : ¬ opN k = 1) (h2 : ¬ opN k = 2) (h3 : 1 ≤ k ∧ k ≤ 7) : k < 5 := by
  unfold opN at h1 h2
  by_cases h5 : k = 5
  · rw [if_pos h5] at h1; exact absurd rfl h1
  · rw [if_neg h5] at h2
    by_cases h6 : k = 6 ∨ k = 7
    · rw [if_pos h6] at h2; exact absurd rfl h2
    · omega
theorem app_len (o : List PN) (t : Tr) : (o ++ post t o.length).length = o.length + t.size := by rw [List.length_append, post_len]
theorem post_bin_app (o : List PN) (k : Int) (a b : Tr) : o ++ post a o.length ++ post b (o ++ post a o.length).length ++ [⟨k, 0, ((o.length + a.size : Nat) : Int) - 1, (((o ++ post a o.length).length + b.size : Nat) : Int) - 1⟩] = o ++ post (.bin k a b) o.length := by
  rw [app_len, post]
  simp only [List.append_assoc]
theorem post_neg_app (o : List PN) (t : Tr) : o ++ post t o.length ++ [⟨5, 0, ((o.length + t.size : Nat) : Int) - 1, 0⟩] = o ++ post (.neg t) o.length := by
  rw [post]
  simp only [List.append_assoc]
theorem leaf_node {l : List PN} {i : Nat} {k n : Int} (h : At l i (.leaf k n)) (hi : i < l.length) : l[i] = ⟨k, n, 0, 0⟩ := by rw [← nAt_at hi]; exact h.leaf
theorem tree_kind {l : List PN} {i : Nat} {t : Tr} (ho : t.ok) (h : At l i t) (hi : i < l.length) : 1 ≤ l[i].kind ∧ l[i].kind ≤ 7 := by
  obtain ⟨h1, h2⟩ := tree_at ho h hi
  by_cases h9 : l[i].kind < 5
  · have := (h1 h9).2.2.2.1; omega
  · have := (h2 h9).2.1; omega
theorem linked_post {t : Tr} (ho : t.ok) : Linked (post t 0) := linked_of (post_all t ho).2
end Go.Cf
namespace Go.Cf
theorem pn_same (a b : PN) : (decide (a.kind = b.kind) && decide (a.number = b.number) && decide (a.left = b.left) && decide (a.right = b.right)) = decide (a = b) := by
  by_cases h : a = b
  · subst h; simp
  · rw [decide_eq_false h]
    obtain ⟨a1, a2, a3, a4⟩ := a
    obtain ⟨b1, b2, b3, b4⟩ := b
    by_cases h1 : a1 = b1 <;> by_cases h2 : a2 = b2 <;> by_cases h3 : a3 = b3 <;> by_cases h4 : a4 = b4 <;> simp_all
end Go.Cf
namespace Go.Cf
theorem polF_code {l : List PN} (h : ¬ (polF l).code ≠ 0) : polF l = ⟨0, 0⟩ := by
  have h' : (polF l).code = 0 := by omega
  unfold polF at h' ⊢
  split at h'
  · exact absurd h' (by decide)
  rename_i c1
  split at h'
  · exact absurd h' (by decide)
  rename_i c2
  split at h'
  · rename_i c3; exact absurd (scan_code_eq h') c3
  rename_i c3
  split at h'
  · exact absurd h' (by decide)
  rename_i c4
  split at h'
  · exact absurd h' (by decide)
  rename_i c5
  rw [if_neg c1, if_neg c2, if_neg c3, if_neg c4, if_neg c5]
end Go.Cf
namespace Go.Proofs.YtllblbkbglifjaaDoor
open Go.RowKit Go.Cf
set_option maxRecDepth 10000
set_option maxHeartbeats 4000000 in
theorem polFormat_any (w : World) (A : Option Addr) (c : Nat) (l : List PN) (hl : Rdl w 0 4 pnCells A l) (hlc : l.length ≤ c) (hcm : c ≤ maxLen) : Calls Tryd.prog 9 #[.agg #[.slice A l.length c]] w fun e w' => e = .returned (.tuple #[.string (baL (fmtR l).2), fv (fmtR l).1]) ∧ Below w.heap.size w w' := by
  have hlm : l.length ≤ 9223372036854775807 := by have h9 := Nat.le_trans hlc hcm; unfold maxLen at h9; omega
  refine gcalls Tryd.func9 rfl Tryd.ntmps9 (Nat.le_of_ble_eq_true rfl) ?_
  refine gfrom [(0, .agg #[_])] ⟨rfl, trivial⟩ fun σ => ?_
  refine gseq fun N1 hN1 => ?_
  refine greg ?_
  refine gop_box (v := .agg #[_]) (cs := #[_]) rfl rfl rfl (fun b1 hb1 => ?_)
  refine gop (y_assign (v := .string _) rfl) rfl rfl rfl ?_
  refine gop_alloc (cs := #[.int .i64 0, .int .i64 0]) Tryd.zeroValue28 rfl rfl (fun b3 hb3 => ?_)
  refine gops_nil ?_
  refine hN1 _ _ ?_
  refine gT [box b1 _, box b3 _] rfl ?_
  refine gfrom [(1, .pointer _), (3, .pointer _)] ⟨rfl, rfl, trivial⟩ fun σ => ?_
  refine gseq fun N2 hN2 => ?_
  refine gseq fun N3 hN3 => ?_
  refine greg ?_
  refine gop (y_loads (cs := [_]) Tryd.isAgg24 Tryd.sizeOf24 rfl rfl (cells_box 0 rfl)) rfl rfl rfl ?_
  refine gop_pure (e_call (vs := [.agg #[_]]) Tryd.func13 rfl (by kernel_rfl) rfl) (fun w hM => polValidate_any w A c l (hl.base hM) hlc hcm) rfl rfl rfl ?_
  refine gop_alloc (cs := #[.int .i64 0, .int .i64 0]) Tryd.zeroValue28 rfl rfl (fun b4 hb4 => ?_)
  refine gop_store 2 (v := .agg #[_, _]) (cs' := #[_, _]) rfl rfl Tryd.sizeOf28 rfl rfl rfl rfl (Nat.le_of_ble_eq_true rfl) rfl rfl ?_
  refine gops_nil ?_
  refine hN3 _ _ ?_
  refine gT [box b1 _, box b3 _, box b4 _] rfl ?_
  refine gfrom [(1, .pointer _), (3, .pointer _), (4, .pointer _)] ⟨rfl, rfl, rfl, trivial⟩ fun σ => ?_
  refine gseq fun N4 hN4 => ?_
  refine greg ?_
  refine gop (y_loads (cs := [_, _]) Tryd.isAgg28 Tryd.sizeOf28 rfl rfl (cells_box 2 rfl)) rfl rfl rfl ?_
  refine gop (y_build (vs := []) (cells := #[.int .i64 0, .int .i64 0]) rfl bd28_) rfl rfl rfl ?_
  refine gop (y_bin (vx := .agg #[_, _]) (vy := .agg #[_, _]) rfl rfl (fun w => eg28 _ _ _ _ _ w) (fun w => ne28 _ _ _ _ w)) rfl rfl rfl ?_
  refine gops_nil ?_
  refine hN4 _ _ ?_
  refine gfrom [(1, .pointer _), (3, .pointer _), (4, .pointer _), (10, .bool _)] ⟨rfl, rfl, rfl, rfl, trivial⟩ fun σ => ?_
  refine gcond (b := _) rfl (fun hc10 => ?_) (fun hc10 => ?_)
  · 
    replace hc10 := fault_ne.1 hc10
    have hF : fmtR l = (polF l, []) := by rw [fmtR, if_pos hc10]
    refine gseq fun N5 hN5 => ?_
    refine greg_e1 [] [(1, room b3 28 2)] (by kernel_rfl) ?_
    refine ge_take 0 (TK := [box b1 _, room b3 28 2, box b4 _]) rfl (by kernel_rfl) (by kernel_rfl) (by kernel_rfl) #[false, true, false] (by kernel_rfl) rfl (y_loads (cs := [_, _]) Tryd.isAgg28 Tryd.sizeOf28 rfl rfl (cells_box 2 rfl)) rfl rfl rfl (weak_room 1 rfl rfl) (listed' := #[true, false, false]) rfl ?_
    refine ge_take 1 (TK := [box b1 _, room b3 28 2, box b4 _]) rfl (by kernel_rfl) (by kernel_rfl) (by kernel_rfl) #[true, false, false] (by kernel_rfl) rfl (y_assign (v := .string _) rfl) rfl rfl rfl (weak_room 1 rfl rfl) (listed' := #[true, true, false]) rfl ?_
    refine ge_one 2 (k' := 0) (listed' := #[true, true, true]) (by kernel_rfl) rfl rfl rfl ?_
    refine gop_store 1 (v := .agg #[_, _]) (cs' := #[_, _]) rfl rfl Tryd.sizeOf28 rfl rfl rfl rfl (Nat.le_of_ble_eq_true rfl) rfl rfl ?_
    refine gops_nil ?_
    refine ge_fin (TK := [box b1 _, room b3 28 2, box b4 _]) rfl (weak_room 1 rfl rfl) ?_
    refine ge_done (by kernel_rfl) ?_
    refine hN5 _ _ ?_
    refine gT [box b1 _, box b3 _, box b4 _] rfl ?_
    refine gfrom [(2, .string _), (3, .pointer _)] ⟨rfl, rfl, trivial⟩ fun σ => ?_
    refine gret fun w1 hM => ?_
    refine ⟨_, res2 rfl (rt (v := .string _) rfl) (rc 1 (cs := [_, _]) hM rfl rfl Tryd.isAgg28 Tryd.sizeOf28 rfl), ?_⟩
    exact ⟨by first | (rw [hF]; done) | (rw [hF]; rfl), hM.low⟩
  · 
    replace hc10 := fault_eq.1 hc10
    obtain ⟨hn0, hn24, -⟩ := pol_ok hc10
    have ht := tree_of hc10
    have hF0 : fmtR l = if 200 < (showB (treeOf l) 0).length then (⟨10, -1⟩, []) else (⟨0, 0⟩, showB (treeOf l) 0) := by rw [fmtR, if_neg (fun h => h hc10)]
    have hbs := baL_size (showB (treeOf l) 0)
    refine gskip ?_
    refine hN2 _ _ ?_
    refine gfrom [(1, .pointer _), (3, .pointer _)] ⟨rfl, rfl, trivial⟩ fun σ => ?_
    refine gseq fun N6 hN6 => ?_
    refine greg ?_
    refine gop (y_loads (cs := [_]) Tryd.isAgg24 Tryd.sizeOf24 rfl rfl (cells_box 0 rfl)) rfl rfl rfl ?_
    refine gop (y_fieldAddr_box fa24_0 rfl) rfl rfl rfl ?_
    refine gop (y_load Tryd.isAgg22 rfl (cell_box 0 rfl rfl)) rfl rfl rfl ?_
    refine gop (y_len Tryd.underlying22 rfl) rfl rfl rfl ?_
    refine gop (y_sub rfl rfl ⟨by omega, by omega⟩) rfl rfl rfl ?_
    refine gop_pure (e_call (vs := [.agg #[_], .int _ _, _]) Tryd.func24 rfl (by kernel_rfl) rfl) (fun w hM => polShow_any A c l hlc hcm (by omega) (treeOf l).size (treeOf l) 0 _ _ (l.length - 1) w (by omega) rfl rfl (by omega) (hl.base hM) ht.ok ht.at_) rfl rfl rfl ?_
    refine gop (y_assign (v := .string _) rfl) rfl rfl rfl ?_
    refine gops_nil ?_
    refine hN6 _ _ ?_
    refine gfrom [(3, .pointer _), (5, .string _)] ⟨rfl, rfl, trivial⟩ fun σ => ?_
    refine gseq fun N7 hN7 => ?_
    refine gseq fun N8 hN8 => ?_
    refine greg ?_
    refine gop (y_move (v := .string _) rfl) rfl rfl rfl ?_
    refine gop (y_lens Tryd.underlying9 rfl) rfl rfl rfl ?_
    refine gop (y_gtr rfl rfl) rfl rfl rfl ?_
    refine gops_nil ?_
    refine hN8 _ _ ?_
    refine gfrom [(3, .pointer _), (5, .string _), (20, .bool _)] ⟨rfl, rfl, rfl, trivial⟩ fun σ => ?_
    refine gcond (b := _) rfl (fun hc20 => ?_) (fun hc20 => ?_)
    · 
      replace hc20 := of_decide_eq_true hc20
      have hF : fmtR l = (⟨10, -1⟩, []) := by rw [hF0, if_pos (by omega)]
      refine gseq fun N9 hN9 => ?_
      refine greg ?_
      refine gop (y_build (vs := [(0, _), (1, _)]) (cells := #[_, _]) rfl (bd28_0_1 _ _)) rfl rfl rfl ?_
      refine gop (y_assign (v := .string _) rfl) rfl rfl rfl ?_
      refine gop_store 1 (v := .agg #[_, _]) (cs' := #[_, _]) rfl rfl Tryd.sizeOf28 rfl rfl rfl rfl (Nat.le_of_ble_eq_true rfl) rfl rfl ?_
      refine gops_nil ?_
      refine hN9 _ _ ?_
      refine gT [box b1 _, box b3 _, box b4 _] rfl ?_
      refine gfrom [(2, .string _), (3, .pointer _)] ⟨rfl, rfl, trivial⟩ fun σ => ?_
      refine gret fun w1 hM => ?_
      refine ⟨_, res2 rfl (rt (v := .string _) rfl) (rc 1 (cs := [_, _]) hM rfl rfl Tryd.isAgg28 Tryd.sizeOf28 rfl), ?_⟩
      exact ⟨by first | (rw [hF]; done) | (rw [hF]; rfl), hM.low⟩
    · 
      replace hc20 := of_decide_eq_false hc20
      have hF : fmtR l = (⟨0, 0⟩, showB (treeOf l) 0) := by rw [hF0, if_neg (by omega)]
      refine gskip ?_
      refine hN7 _ _ ?_
      refine gfrom [(3, .pointer _), (5, .string _)] ⟨rfl, rfl, trivial⟩ fun σ => ?_
      refine gseq fun N10 hN10 => ?_
      refine greg ?_
      refine gop (y_move (v := .string _) rfl) rfl rfl rfl ?_
      refine gop (y_build (vs := []) (cells := #[.int .i64 0, .int .i64 0]) rfl bd28_) rfl rfl rfl ?_
      refine gop (y_assign (v := .string _) rfl) rfl rfl rfl ?_
      refine gop_store 1 (v := .agg #[_, _]) (cs' := #[_, _]) rfl rfl Tryd.sizeOf28 rfl rfl rfl rfl (Nat.le_of_ble_eq_true rfl) rfl rfl ?_
      refine gops_nil ?_
      refine hN10 _ _ ?_
      refine gT [box b1 _, box b3 _, box b4 _] rfl ?_
      refine gfrom [(2, .string _), (3, .pointer _)] ⟨rfl, rfl, trivial⟩ fun σ => ?_
      refine gret fun w1 hM => ?_
      refine ⟨_, res2 rfl (rt (v := .string _) rfl) (rc 1 (cs := [_, _]) hM rfl rfl Tryd.isAgg28 Tryd.sizeOf28 rfl), ?_⟩
      exact ⟨by first | (rw [hF]; done) | (rw [hF]; rfl), hM.low⟩
end Go.Proofs.YtllblbkbglifjaaDoor
namespace Go.Proofs.YtllblbkbglifjaaDoor
open Go.RowKit Go.Cf
set_option maxRecDepth 10000
theorem fa52_0 (a : Addr) (w : World) : (Instr.fieldAt 52 (.pointer (some a)) 0).run Tryd.prog w = .ok (.pointer (some (a.add 0))) w := by kernel_rfl
theorem el47 : Elem Tryd.prog 47 4 32 := elem_of (z := .agg #[.int .i64 0, .int .i64 0, .int .i64 0, .int .i64 0]) (by kernel_rfl) rfl (by decide)
theorem bd24_0 (x1 : Option Addr) (x1l x1c : Nat) : Tryd.prog.built 24 [(0, .slice x1 x1l x1c)] = some #[.slice x1 x1l x1c] := by kernel_rfl
theorem bd24_  : Tryd.prog.built 24 [] = some #[.slice none 0 0] := by kernel_rfl
theorem bd47_0_2_3 (x1 : Int) (x2 : Int) (x3 : Int) : Tryd.prog.built 47 [(0, .int .i64 x1), (2, .int .i64 x2), (3, .int .i64 x3)] = some #[.int .i64 x1, .int .i64 0, .int .i64 x2, .int .i64 x3] := by kernel_rfl
theorem bd47_0_2 (x1 : Int) (x2 : Int) : Tryd.prog.built 47 [(0, .int .i64 x1), (2, .int .i64 x2)] = some #[.int .i64 x1, .int .i64 0, .int .i64 x2, .int .i64 0] := by kernel_rfl
set_option maxHeartbeats 4000000 in
theorem polAdd1_any (w0 w : World) (bg bc : Nat) (B : Option Addr) (o : List PN) (fr : Reg) (hM0 : Mem w0 [box bg (.cells #[.slice B (o.length) bc] 52), rowl pnCells w0.heap.size 47 4 (.slice B (o).length bc) (o), fr] w) (hol : o.length ≤ 1000) (n : PN) :
    Calls Tryd.prog 41 #[.pointer (some ⟨bg, 0, none⟩), pnV n] w fun e w' => ∃ B' bc', e = .returned (.int .i64 (o.length : Nat)) ∧ Mem w0 [box bg (.cells #[.slice B' ((o ++ [n]).length) bc'] 52), rowl pnCells w0.heap.size 47 4 (.slice B' (o ++ [n]).length bc') (o ++ [n]), fr] w' := by
  refine gcallsT Tryd.func41 rfl Tryd.ntmps41 (Nat.le_of_ble_eq_true rfl) hM0 ?_
  refine gfrom [(0, .pointer (some ⟨bg, 0, none⟩)), (1, .agg #[_, _, _, _])] ⟨rfl, rfl, trivial⟩ fun σ => ?_
  refine gseq fun N1 hN1 => ?_
  refine greg ?_
  refine gop_box (v := .agg #[_, _, _, _]) (cs := #[_, _, _, _]) rfl rfl rfl (fun b3 hb3 => ?_)
  refine gop (y_assign (v := .int _ _) rfl) rfl rfl rfl ?_
  refine gops_nil ?_
  refine hN1 _ _ ?_
  refine gT [box bg _, rowl _ _ _ _ _ _, fr, box b3 _] rfl ?_
  refine gfrom [(0, .pointer (some ⟨bg, 0, none⟩)), (3, .pointer _)] ⟨rfl, rfl, trivial⟩ fun σ => ?_
  refine gseq fun N2 hN2 => ?_
  refine greg_e1 [10] [(1, emp)] (by kernel_rfl) ?_
  refine ge_take 0 (TK := [box bg _, emp, fr, box b3 _]) rfl (by kernel_rfl) (by kernel_rfl) (by kernel_rfl) #[false, true, true, true, true, true, true, true, false, false, false] (by kernel_rfl) rfl (y_move (v := .pointer (some ⟨bg, 0, none⟩)) rfl) rfl rfl rfl (weak_emp 1 rfl) (listed' := #[true, false, false, false, false, false, false, false, false, false, false]) rfl ?_
  refine ge_take 1 (TK := [box bg _, emp, fr, box b3 _]) rfl (by kernel_rfl) (by kernel_rfl) (by kernel_rfl) #[true, false, false, false, false, true, true, false, false, false, false] (by kernel_rfl) rfl (y_move (v := .pointer (some ⟨bg, 0, none⟩)) rfl) rfl rfl rfl (weak_emp 1 rfl) (listed' := #[true, true, false, false, false, false, false, false, false, false, false]) rfl ?_
  refine ge_take 2 (TK := [box bg _, emp, fr, box b3 _]) rfl (by kernel_rfl) (by kernel_rfl) (by kernel_rfl) #[true, true, false, false, false, true, true, false, false, false, false] (by kernel_rfl) rfl (y_nilCheck rfl) rfl rfl rfl (weak_emp 1 rfl) (listed' := #[true, true, true, false, false, false, false, false, false, false, false]) rfl ?_
  refine ge_take 3 (TK := [box bg _, emp, fr, box b3 _]) rfl (by kernel_rfl) (by kernel_rfl) (by kernel_rfl) #[true, true, true, false, false, true, true, false, false, false, false] (by kernel_rfl) rfl (y_fieldAddr_box fa52_0 rfl) rfl rfl rfl (weak_emp 1 rfl) (listed' := #[true, true, true, true, false, false, false, false, false, false, false]) rfl ?_
  refine ge_take 4 (TK := [box bg _, emp, fr, box b3 _]) rfl (by kernel_rfl) (by kernel_rfl) (by kernel_rfl) #[true, true, true, true, false, true, true, false, false, false, false] (by kernel_rfl) rfl (y_load Tryd.isAgg22 rfl (cell_box 0 rfl rfl)) rfl rfl rfl (weak_emp 1 rfl) (listed' := #[true, true, true, true, true, false, false, false, false, false, false]) rfl ?_
  refine ge_take 5 (TK := [box bg _, emp, fr, box b3 _]) rfl (by kernel_rfl) (by kernel_rfl) (by kernel_rfl) #[true, true, true, true, true, false, false, false, false, false, false] (by kernel_rfl) rfl (y_loads (cs := [_, _, _, _]) Tryd.isAgg47 Tryd.sizeOf47 rfl rfl (cells_box 3 rfl)) rfl rfl rfl (weak_emp 1 rfl) (listed' := #[true, true, true, true, true, true, false, false, false, false, false]) rfl ?_
  refine ge_one 6 (k' := 0) (listed' := #[true, true, true, true, true, true, true, false, false, false, false]) (by kernel_rfl) rfl rfl rfl ?_
  refine gop_lit (vs := [.agg #[_, _, _, _]]) (cells := #[_, _, _, _]) Tryd.underlying22 Tryd.sizeOf47 Tryd.zeroValue47 rfl (by decide) (by decide) rfl rfl rfl rfl (fun b11 hb11 => ?_)
  refine gops_nil ?_
  refine ge_fin (TK := [box bg _, emp, fr, box b3 _]) rfl (weak_trans (weak_take (T' := [box bg _, rowl _ _ _ _ _ _, fr, box b3 _]) rfl) (weak_emp 1 rfl)) ?_
  refine ge_one 7 (k' := 0) (listed' := #[true, true, true, true, true, true, true, true, false, false, false]) (by kernel_rfl) rfl rfl rfl ?_
  refine gop_append 1 (f := pnCells) (l2 := [n]) Tryd.underlying22 el47 wide_pn (v := .slice _ _ _) rfl rfl rfl rfl (fun h => by cases h) (by simp [maxLen]; omega) (by simp; omega) (src_box 4 rfl rfl) rfl (fun v12 => ?_)
  refine gops_fact (fun w hM => own_form (hM.own 1 rfl)) ?_
  rintro ⟨A12, c12, rfl, hc12, hm12⟩
  refine gops_nil ?_
  refine ge_fin (TK := [box bg _, emp, fr, box b3 _]) rfl (weak_trans (weak_take (T' := [box bg _, rowl _ _ _ _ _ _, fr, box b3 _]) rfl) (weak_emp 1 rfl)) ?_
  refine ge_take 8 (TK := [box bg _, emp, fr, box b3 _]) rfl (by kernel_rfl) (by kernel_rfl) (by kernel_rfl) #[true, true, true, true, true, true, true, true, false, false, false] (by kernel_rfl) rfl (y_nilCheck rfl) rfl rfl rfl (weak_trans (weak_take (T' := [box bg _, rowl _ _ _ _ _ _, fr, box b3 _]) rfl) (weak_emp 1 rfl)) (listed' := #[true, true, true, true, true, true, true, true, true, false, false]) rfl ?_
  refine ge_take 9 (TK := [box bg _, emp, fr, box b3 _]) rfl (by kernel_rfl) (by kernel_rfl) (by kernel_rfl) #[true, true, true, true, true, true, true, true, true, false, false] (by kernel_rfl) rfl (y_fieldAddr_box fa52_0 rfl) rfl rfl rfl (weak_trans (weak_take (T' := [box bg _, rowl _ _ _ _ _ _, fr, box b3 _]) rfl) (weak_emp 1 rfl)) (listed' := #[true, true, true, true, true, true, true, true, true, true, false]) rfl ?_
  refine ge_one 10 (k' := 1) (listed' := #[true, true, true, true, true, true, true, true, true, true, true]) (by kernel_rfl) rfl rfl rfl ?_
  refine gop_store 0 (v := .slice A12 _ c12) (cs' := #[_]) rfl rfl Tryd.sizeOf22 rfl rfl rfl rfl (Nat.le_of_ble_eq_true rfl) rfl rfl ?_
  refine gops_nil ?_
  refine ge_fin (TK := []) rfl (weak_nil) ?_
  refine ge_done (by kernel_rfl) ?_
  refine hN2 _ _ ?_
  refine gT [box bg _, rowl _ _ _ _ _ _, fr, box b3 _, box b11 _] rfl ?_
  refine gfrom [(0, .pointer (some ⟨bg, 0, none⟩))] ⟨rfl, trivial⟩ fun σ => ?_
  refine gseq fun N3 hN3 => ?_
  refine greg ?_
  refine gop (y_move (v := .pointer (some ⟨bg, 0, none⟩)) rfl) rfl rfl rfl ?_
  refine gop (y_nilCheck rfl) rfl rfl rfl ?_
  refine gop (y_fieldAddr_box fa52_0 rfl) rfl rfl rfl ?_
  refine gop (y_load Tryd.isAgg22 rfl (cell_box 0 rfl rfl)) rfl rfl rfl ?_
  refine gop (y_len Tryd.underlying22 rfl) rfl rfl rfl ?_
  refine gop (y_sub rfl rfl ⟨by first | omega | (simp; done) | (simp; omega), by first | omega | (simp; done) | (simp; omega)⟩) rfl rfl rfl ?_
  refine gop (y_assign (v := .int _ _) rfl) rfl rfl rfl ?_
  refine gops_nil ?_
  refine hN3 _ _ ?_
  refine gfrom [(4, .int _ _)] ⟨rfl, trivial⟩ fun σ => ?_
  refine gret fun w1 hM => ?_
  refine ⟨_, res1 rfl (rt (v := .int _ _) rfl), ?_⟩
  exact ⟨A12, c12, by simp, weak_take (T' := [_, _, fr]) rfl _ hM⟩
set_option maxHeartbeats 4000000 in
theorem polMade1_any (w : World) (bg bc : Nat) (B : Option Addr) (t : Tr) (hto : t.ok) (hsz : t.size ≤ 1000) (hcell : w.cell? ⟨bg, 0, none⟩ = some (.slice B (post t 0).length bc)) (hrd : Rdl w 0 4 pnCells B (post t 0)) (hlc : (post t 0).length ≤ bc) (hcm : bc ≤ maxLen) : Calls Tryd.prog 26 #[.pointer (some ⟨bg, 0, none⟩)] w fun e w' => e = .returned (.tuple #[.agg #[.slice (if 24 < (t).size ∨ 12 < (t).depth then none else B) (if 24 < (t).size ∨ 12 < (t).depth then 0 else (post t 0).length) (if 24 < (t).size ∨ 12 < (t).depth then 0 else bc)], fv (madeR t).1]) ∧ Below w.heap.size w w' := by
  have hpl := post_len t 0
  have hps := t.pos
  have hdd := depL_post hto
  refine gcalls Tryd.func26 rfl Tryd.ntmps26 (Nat.le_of_ble_eq_true rfl) ?_
  refine gfrom [(0, .pointer (some ⟨bg, 0, none⟩))] ⟨rfl, trivial⟩ fun σ => ?_
  refine gseq fun N1 hN1 => ?_
  refine greg ?_
  refine gop_alloc (cs := #[.slice none 0 0]) Tryd.zeroValue24 rfl rfl (fun b2 hb2 => ?_)
  refine gop_alloc (cs := #[.int .i64 0, .int .i64 0]) Tryd.zeroValue28 rfl rfl (fun b3 hb3 => ?_)
  refine gops_nil ?_
  refine hN1 _ _ ?_
  refine gT [box b2 _, box b3 _] rfl ?_
  refine gfrom [(0, .pointer (some ⟨bg, 0, none⟩)), (2, .pointer _), (3, .pointer _)] ⟨rfl, rfl, rfl, trivial⟩ fun σ => ?_
  refine gseq fun N2 hN2 => ?_
  refine greg ?_
  refine gop (y_move (v := .pointer (some ⟨bg, 0, none⟩)) rfl) rfl rfl rfl ?_
  refine gop (y_nilCheck rfl) rfl rfl rfl ?_
  refine gop (y_fieldAddr_box fa52_0 rfl) rfl rfl rfl ?_
  refine gop (y_load Tryd.isAgg22 rfl (cell_base hcell)) rfl rfl rfl ?_
  refine gop (y_build (vs := [(0, .slice _ _ _)]) (cells := #[_]) rfl (bd24_0 _ _ _)) rfl rfl rfl ?_
  refine gop_alloc (cs := #[.slice none 0 0]) Tryd.zeroValue24 rfl rfl (fun b4 hb4 => ?_)
  refine gop_store 2 (v := .agg #[_]) (cs' := #[_]) rfl rfl Tryd.sizeOf24 rfl rfl rfl rfl (Nat.le_of_ble_eq_true rfl) rfl rfl ?_
  refine gops_nil ?_
  refine hN2 _ _ ?_
  refine gT [box b2 _, box b3 _, box b4 _] rfl ?_
  refine gfrom [(2, .pointer _), (3, .pointer _), (4, .pointer _)] ⟨rfl, rfl, rfl, trivial⟩ fun σ => ?_
  refine gseq fun N3 hN3 => ?_
  refine gseq fun N4 hN4 => ?_
  refine greg ?_
  refine gop (y_fieldAddr_box fa24_0 rfl) rfl rfl rfl ?_
  refine gop (y_load Tryd.isAgg22 rfl (cell_box 2 rfl rfl)) rfl rfl rfl ?_
  refine gop (y_len Tryd.underlying22 rfl) rfl rfl rfl ?_
  refine gop (y_gtr rfl rfl) rfl rfl rfl ?_
  refine gop (y_move (v := .bool _) rfl) rfl rfl rfl ?_
  refine gop_if (want := false) rfl rfl rfl rfl rfl rfl (fun hg14 => ?_) (fun hg14 => ?_)
  · 
    have hg14d := of_decide_eq_false hg14
    refine gop (y_bare (y_loads (cs := [_]) Tryd.isAgg24 Tryd.sizeOf24 rfl rfl (cells_box 2 rfl))) rfl rfl rfl ?_
    refine gop_on rfl rfl rfl rfl hg14 ?_
    refine gop_pure (e_call (vs := [.agg #[_]]) Tryd.func29 rfl (by kernel_rfl) rfl) (fun w hM => polDepth_any w B bc (post t 0) (hrd.base hM) hlc hcm (by omega) (by omega) (linked_post hto)) rfl rfl rfl ?_
    refine gop_on rfl rfl rfl rfl hg14 ?_
    refine gop (y_bare (y_gtr rfl rfl)) rfl rfl rfl ?_
    refine gop (y_pick_f (v := .bool _) rfl hg14 rfl) rfl rfl rfl ?_
    refine gops_nil ?_
    refine hN4 _ _ ?_
    refine gfrom [(2, .pointer _), (3, .pointer _), (4, .pointer _), (18, .bool _)] ⟨rfl, rfl, rfl, rfl, trivial⟩ fun σ => ?_
    refine gcond (b := _) rfl (fun hc18 => ?_) (fun hc18 => ?_)
    · 
      replace hc18 := of_decide_eq_true hc18
      have hB : 24 < t.size ∨ 12 < t.depth := by omega
      have hF : (madeR t).1 = ⟨10, -1⟩ := by rw [madeR, if_pos hB]
      refine gseq fun N5 hN5 => ?_
      refine greg ?_
      refine gop (y_build (vs := []) (cells := #[.slice none 0 0]) rfl bd24_) rfl rfl rfl ?_
      refine gop (y_build (vs := [(0, _), (1, _)]) (cells := #[_, _]) rfl (bd28_0_1 _ _)) rfl rfl rfl ?_
      refine gop_store 0 (v := .agg #[_]) (cs' := #[_]) rfl rfl Tryd.sizeOf24 rfl rfl rfl rfl (Nat.le_of_ble_eq_true rfl) rfl rfl ?_
      refine gop_store 1 (v := .agg #[_, _]) (cs' := #[_, _]) rfl rfl Tryd.sizeOf28 rfl rfl rfl rfl (Nat.le_of_ble_eq_true rfl) rfl rfl ?_
      refine gops_nil ?_
      refine hN5 _ _ ?_
      refine gT [box b2 _, box b3 _, box b4 _] rfl ?_
      refine gfrom [(2, .pointer _), (3, .pointer _)] ⟨rfl, rfl, trivial⟩ fun σ => ?_
      refine gret fun w1 hM => ?_
      refine ⟨_, res2 rfl (rc 0 (cs := [_]) hM rfl rfl Tryd.isAgg24 Tryd.sizeOf24 rfl) (rc 1 (cs := [_, _]) hM rfl rfl Tryd.isAgg28 Tryd.sizeOf28 rfl), ?_⟩
      exact ⟨by rw [hF]; first | (simp only [if_pos hB]; done) | (simp only [if_neg hB]; done), hM.low⟩
    · 
      replace hc18 := of_decide_eq_false hc18
      have hB : ¬ (24 < t.size ∨ 12 < t.depth) := by omega
      have hF : (madeR t).1 = ⟨0, 0⟩ := by rw [madeR, if_neg hB]
      refine gskip ?_
      refine hN3 _ _ ?_
      refine gfrom [(2, .pointer _), (3, .pointer _), (4, .pointer _)] ⟨rfl, rfl, rfl, trivial⟩ fun σ => ?_
      refine gseq fun N6 hN6 => ?_
      refine greg ?_
      refine gop (y_loads (cs := [_]) Tryd.isAgg24 Tryd.sizeOf24 rfl rfl (cells_box 2 rfl)) rfl rfl rfl ?_
      refine gop (y_build (vs := []) (cells := #[.int .i64 0, .int .i64 0]) rfl bd28_) rfl rfl rfl ?_
      refine gop_store 0 (v := .agg #[_]) (cs' := #[_]) rfl rfl Tryd.sizeOf24 rfl rfl rfl rfl (Nat.le_of_ble_eq_true rfl) rfl rfl ?_
      refine gop_store 1 (v := .agg #[_, _]) (cs' := #[_, _]) rfl rfl Tryd.sizeOf28 rfl rfl rfl rfl (Nat.le_of_ble_eq_true rfl) rfl rfl ?_
      refine gops_nil ?_
      refine hN6 _ _ ?_
      refine gT [box b2 _, box b3 _, box b4 _] rfl ?_
      refine gfrom [(2, .pointer _), (3, .pointer _)] ⟨rfl, rfl, trivial⟩ fun σ => ?_
      refine gret fun w1 hM => ?_
      refine ⟨_, res2 rfl (rc 0 (cs := [_]) hM rfl rfl Tryd.isAgg24 Tryd.sizeOf24 rfl) (rc 1 (cs := [_, _]) hM rfl rfl Tryd.isAgg28 Tryd.sizeOf28 rfl), ?_⟩
      exact ⟨by rw [hF]; first | (simp only [if_pos hB]; done) | (simp only [if_neg hB]; done), hM.low⟩
  · 
    have hg14d := of_decide_eq_true hg14
    refine gop_off rfl rfl rfl rfl hg14 rfl rfl ?_
    refine gop_off rfl rfl rfl rfl hg14 rfl rfl ?_
    refine gop (y_pick_t (v := .bool _) rfl hg14 rfl) rfl rfl rfl ?_
    refine gops_nil ?_
    refine hN4 _ _ ?_
    refine gfrom [(2, .pointer _), (3, .pointer _), (4, .pointer _), (18, .bool _)] ⟨rfl, rfl, rfl, rfl, trivial⟩ fun σ => ?_
    refine gcond (b := _) rfl (fun hc18 => ?_) (fun hc18 => ?_)
    · 
      have hB : 24 < t.size ∨ 12 < t.depth := by omega
      have hF : (madeR t).1 = ⟨10, -1⟩ := by rw [madeR, if_pos hB]
      refine gseq fun N7 hN7 => ?_
      refine greg ?_
      refine gop (y_build (vs := []) (cells := #[.slice none 0 0]) rfl bd24_) rfl rfl rfl ?_
      refine gop (y_build (vs := [(0, _), (1, _)]) (cells := #[_, _]) rfl (bd28_0_1 _ _)) rfl rfl rfl ?_
      refine gop_store 0 (v := .agg #[_]) (cs' := #[_]) rfl rfl Tryd.sizeOf24 rfl rfl rfl rfl (Nat.le_of_ble_eq_true rfl) rfl rfl ?_
      refine gop_store 1 (v := .agg #[_, _]) (cs' := #[_, _]) rfl rfl Tryd.sizeOf28 rfl rfl rfl rfl (Nat.le_of_ble_eq_true rfl) rfl rfl ?_
      refine gops_nil ?_
      refine hN7 _ _ ?_
      refine gT [box b2 _, box b3 _, box b4 _] rfl ?_
      refine gfrom [(2, .pointer _), (3, .pointer _)] ⟨rfl, rfl, trivial⟩ fun σ => ?_
      refine gret fun w1 hM => ?_
      refine ⟨_, res2 rfl (rc 0 (cs := [_]) hM rfl rfl Tryd.isAgg24 Tryd.sizeOf24 rfl) (rc 1 (cs := [_, _]) hM rfl rfl Tryd.isAgg28 Tryd.sizeOf28 rfl), ?_⟩
      exact ⟨by rw [hF]; first | (simp only [if_pos hB]; done) | (simp only [if_neg hB]; done), hM.low⟩
    · 
      cases hc18
set_option maxHeartbeats 8000000 in
theorem polNormal1_any (w0 : World) (A : Option Addr) (c : Nat) (l : List PN) (hl : Rdl w0 0 4 pnCells A l) (hlc : l.length ≤ c) (hcm : c ≤ maxLen) (bg : Nat) (z : Nat) : ∀ (t : Tr) (x : Bool) (i : Int) (m : Nat) (w : World) (B : Option Addr) (bc : Nat) (o : List PN) (fr : Reg), t.size = z → i = (m : Int) → t.ok → At l m t → o.length + 2 * t.size ≤ 900 →
    Mem w0 [box bg (.cells #[.slice B (o.length) bc] 52), rowl pnCells w0.heap.size 47 4 (.slice B (o).length bc) (o), fr] w → Calls Tryd.prog 25 #[.pointer (some ⟨bg, 0, none⟩), .agg #[.slice A l.length c], .int .i64 i, .bool x] w fun e w' => ∃ B' bc', e = .returned (.int .i64 ((o.length + (nrm t x).size : Nat) - 1)) ∧ Mem w0 [box bg (.cells #[.slice B' ((o ++ post (nrm t x) o.length).length) bc'] 52), rowl pnCells w0.heap.size 47 4 (.slice B' (o ++ post (nrm t x) o.length).length bc') (o ++ post (nrm t x) o.length), fr] w' := by
  have hlm : l.length ≤ 9223372036854775807 := by have h9 := Nat.le_trans hlc hcm; unfold maxLen at h9; omega
  refine Nat.strongRecOn z ?_
  intro z ih t x i m w B bc o fr hz hi hok hat hol hM0
  have hm1 := hat.lt
  obtain ⟨ad, rfl, -, hca⟩ := hl.at_ hm1
  obtain ⟨hsm, -⟩ := tree_at hok hat hm1
  obtain ⟨hk1, hk7⟩ := tree_kind hok hat hm1
  have hps := t.pos
  have hnr := nrm_ok t x hok
  refine gcallsT Tryd.func25 rfl Tryd.ntmps25 (Nat.le_of_ble_eq_true rfl) hM0 ?_
  refine gfrom [(0, .pointer (some ⟨bg, 0, none⟩)), (1, .agg #[_]), (2, .int _ _), (3, .bool _)] ⟨rfl, rfl, rfl, rfl, trivial⟩ fun σ => ?_
  refine gseq fun N1 hN1 => ?_
  refine greg ?_
  refine gop_box (v := .agg #[_]) (cs := #[_]) rfl rfl rfl (fun b5 hb5 => ?_)
  refine gop (y_assign (v := .int _ _) rfl) rfl rfl rfl ?_
  refine gops_nil ?_
  refine hN1 _ _ ?_
  refine gT [box bg _, rowl _ _ _ _ _ _, fr, box b5 _] rfl ?_
  refine gfrom [(0, .pointer (some ⟨bg, 0, none⟩)), (2, .int _ _), (3, .bool _), (5, .pointer _)] ⟨rfl, rfl, rfl, rfl, trivial⟩ fun σ => ?_
  refine gseq fun N2 hN2 => ?_
  refine greg ?_
  refine gop (y_fieldAddr_box fa24_0 rfl) rfl rfl rfl ?_
  refine gop (y_load Tryd.isAgg22 rfl (cell_box 3 rfl rfl)) rfl rfl rfl ?_
  refine gop (y_move (v := .int _ _) rfl) rfl rfl rfl ?_
  refine gop (y_indexAddr (m := m) Tryd.underlying22 Tryd.sizeOf47 rfl rfl (by omega) (by omega) (by omega)) rfl rfl rfl ?_
  refine gop (y_loads (cs := [_, _, _, _]) Tryd.isAgg47 Tryd.sizeOf47 rfl rfl (cells_base hca)) rfl rfl rfl ?_
  refine gop_alloc (cs := #[.int .i64 0, .int .i64 0, .int .i64 0, .int .i64 0]) Tryd.zeroValue47 rfl rfl (fun b9 hb9 => ?_)
  refine gop_store 4 (v := .agg #[_, _, _, _]) (cs' := #[_, _, _, _]) rfl rfl Tryd.sizeOf47 rfl rfl rfl rfl (Nat.le_of_ble_eq_true rfl) rfl rfl ?_
  refine gops_nil ?_
  refine hN2 _ _ ?_
  refine gT [box bg _, rowl _ _ _ _ _ _, fr, box b5 _, box b9 _] rfl ?_
  refine gfrom [(0, .pointer (some ⟨bg, 0, none⟩)), (3, .bool _), (5, .pointer _), (9, .pointer _)] ⟨rfl, rfl, rfl, rfl, trivial⟩ fun σ => ?_
  refine gseq fun N3 hN3 => ?_
  refine gseq fun N4 hN4 => ?_
  refine greg ?_
  refine gop (y_fieldAddr_box fa47_0 rfl) rfl rfl rfl ?_
  refine gop (y_load Tryd.isAgg3 rfl (cell_box 4 rfl rfl)) rfl rfl rfl ?_
  refine gop_pure (e_call (vs := [.int _ _]) Tryd.func28 rfl (by kernel_rfl) rfl) (fun w hM => polOps_any w _) rfl rfl rfl ?_
  refine gops_nil ?_
  refine hN4 _ _ ?_
  refine gfrom [(0, .pointer (some ⟨bg, 0, none⟩)), (3, .bool _), (5, .pointer _), (9, .pointer _), (21, .int _ _)] ⟨rfl, rfl, rfl, rfl, rfl, trivial⟩ fun σ => ?_
  refine gblock ?_
  refine gseq fun N5 hN5 => ?_
  refine greg ?_
  refine gop (y_eql rfl rfl) rfl rfl rfl ?_
  refine gop (y_assign (v := .bool _) rfl) rfl rfl rfl ?_
  refine gops_nil ?_
  refine hN5 _ _ ?_
  refine gfrom [(0, .pointer (some ⟨bg, 0, none⟩)), (3, .bool _), (5, .pointer _), (9, .pointer _), (21, .int _ _), (22, .bool _)] ⟨rfl, rfl, rfl, rfl, rfl, rfl, trivial⟩ fun σ => ?_
  refine gcond (b := _) rfl (fun hc22 => ?_) (fun hc22 => ?_)
  · 
    replace hc22 := of_decide_eq_true hc22
    have h5k := opN_one (by omega : opN l[m].kind = 1)
    have hnk : ¬ l[m].kind < 5 := by omega
    obtain ⟨hi1, hk7, d, q, hdo, hdt, hdl, hds, hdq, h5, h67⟩ := tree_big hok hat hm1 hnk
    have hdp := depth_pos d
    have hdz := hdt.size_le
    have hte := h5 h5k
    have hn : nrm t x = nrm d (!x) := by rw [hte, nrm]
    have hsd : t.size = d.size + 1 := by rw [hte]; rfl
    refine gseq fun N6 hN6 => ?_
    refine greg ?_
    refine gop (y_move (v := .pointer (some ⟨bg, 0, none⟩)) rfl) rfl rfl rfl ?_
    refine gop (y_loads (cs := [_]) Tryd.isAgg24 Tryd.sizeOf24 rfl rfl (cells_box 3 rfl)) rfl rfl rfl ?_
    refine gop (y_fieldAddr_box fa47_2 rfl) rfl rfl rfl ?_
    refine gop (y_load Tryd.isAgg3 rfl (cell_box 4 rfl rfl)) rfl rfl rfl ?_
    refine gop (y_move (v := .bool _) rfl) rfl rfl rfl ?_
    refine gop (y_not rfl) rfl rfl rfl ?_
    refine gop_does2 0 1 (fun v r s G => ∃ B' bc', v = .int .i64 (((o).length + (nrm d (!x)).size : Nat) - 1) ∧ r = box bg (.cells #[.slice B' ((o ++ post (nrm d (!x)) (o).length).length) bc'] 52) ∧ s = rowl pnCells w0.heap.size 47 4 (.slice B' (o ++ post (nrm d (!x)) (o).length).length bc') (o ++ post (nrm d (!x)) (o).length) ∧ G = []) (e_call (vs := [.pointer (some ⟨bg, 0, none⟩), .agg #[_], .int _ _, .bool _]) Tryd.func25 rfl (by kernel_rfl) rfl) rfl rfl rfl (fun w fr1 hfr hM => (ih d.size (by omega) d (!x) _ q w _ _ (o) fr1 rfl hdl hdo hdt (by omega) hM).mono fun _ _ ⟨B', bc', h1, h2⟩ => ⟨_, _, _, [], h1, ⟨B', bc', rfl, rfl, rfl, rfl⟩, h2⟩) rfl rfl rfl ?_
    rintro _ _ _ _ ⟨B30, bc30, rfl, rfl, rfl, rfl⟩
    refine gop (y_assign (v := .int _ _) rfl) rfl rfl rfl ?_
    refine gops_nil ?_
    refine hN6 _ _ ?_
    refine gT [box bg _, rowl _ _ _ _ _ _, fr, box b5 _, box b9 _] rfl ?_
    refine gfrom [(8, .int _ _)] ⟨rfl, trivial⟩ fun σ => ?_
    refine gret fun w1 hM => ?_
    refine ⟨_, res1 rfl (rt (v := .int _ _) rfl), ?_⟩
    rw [hn]
    exact ⟨B30, bc30, rfl, weak_take (T' := [_, _, fr]) rfl _ hM⟩
  · 
    replace hc22 := of_decide_eq_false hc22
    refine gseq fun N7 hN7 => ?_
    refine greg ?_
    refine gop (y_eql rfl rfl) rfl rfl rfl ?_
    refine gop (y_assign (v := .bool _) rfl) rfl rfl rfl ?_
    refine gops_nil ?_
    refine hN7 _ _ ?_
    refine gfrom [(0, .pointer (some ⟨bg, 0, none⟩)), (3, .bool _), (5, .pointer _), (9, .pointer _), (31, .bool _)] ⟨rfl, rfl, rfl, rfl, rfl, trivial⟩ fun σ => ?_
    refine gcond (b := _) rfl (fun hc31 => ?_) (fun hc31 => ?_)
    · 
      replace hc31 := of_decide_eq_true hc31
      have h67k := opN_two (by omega : opN l[m].kind = 2)
      have hnk : ¬ l[m].kind < 5 := by omega
      obtain ⟨hi1, hk7, d, q, hdo, hdt, hdl, hds, hdq, h5, h67⟩ := tree_big hok hat hm1 hnk
      have hdp := depth_pos d
      have hdz := hdt.size_le
      obtain ⟨b, hbo, hbt, hbs, hbr, he⟩ := h67 (by omega)
      have hbp := b.pos
      have hda := nrm_ok d x hdo
      have hba := nrm_ok b x hbo
      have hsd : t.size = d.size + b.size + 1 := by rw [he]; rfl
      have hn : nrm t x = .bin (if x = true then 13 - l[m].kind else l[m].kind) (nrm d x) (nrm b x) := by rw [he, nrm]
      have hal1 := app_len o (nrm d x)
      have hal2 := app_len (o ++ post (nrm d x) o.length) (nrm b x)
      refine gseq fun N8 hN8 => ?_
      refine greg ?_
      refine gop (y_fieldAddr_box fa47_0 rfl) rfl rfl rfl ?_
      refine gop (y_load Tryd.isAgg3 rfl (cell_box 4 rfl rfl)) rfl rfl rfl ?_
      refine gop (y_assign (v := .int _ _) rfl) rfl rfl rfl ?_
      refine gops_nil ?_
      refine hN8 _ _ ?_
      refine gfrom [(0, .pointer (some ⟨bg, 0, none⟩)), (3, .bool _), (5, .pointer _), (9, .pointer _), (10, .int _ _)] ⟨rfl, rfl, rfl, rfl, rfl, trivial⟩ fun σ => ?_
      refine gseq fun N9 hN9 => ?_
      refine gfrom [(0, .pointer (some ⟨bg, 0, none⟩)), (3, .bool _), (5, .pointer _), (9, .pointer _), (10, .int _ _)] ⟨rfl, rfl, rfl, rfl, rfl, trivial⟩ fun σ => ?_
      refine gcut3 (Lf := [(0, .pointer (some ⟨bg, 0, none⟩)), (3, .bool _), (5, .pointer _), (9, .pointer _)]) (G := Unit) (fun g => True) (fun g => [(10, .int .i64 (if x = true then 13 - l[m].kind else l[m].kind))]) (fun g => []) ⟨rfl, rfl, rfl, rfl, trivial⟩ ?_ ?_
      ·
        refine gseq fun N10 hN10 => ?_
        refine greg ?_
        refine gop (y_move (v := .bool _) rfl) rfl rfl rfl ?_
        refine gops_nil ?_
        refine hN10 _ _ ?_
        refine gfrom [(0, .pointer (some ⟨bg, 0, none⟩)), (3, .bool _), (5, .pointer _), (9, .pointer _), (10, .int _ _), (35, .bool _)] ⟨rfl, rfl, rfl, rfl, rfl, rfl, trivial⟩ fun σ => ?_
        refine gcond (b := _) rfl (fun hc35 => ?_) (fun hc35 => ?_)
        · 
          refine greg ?_
          refine gop (y_move (v := .int _ _) rfl) rfl rfl rfl ?_
          refine gop (y_sub rfl rfl ⟨by omega, by omega⟩) rfl rfl rfl ?_
          refine gop (y_assign (v := .int _ _) rfl) rfl rfl rfl ?_
          refine gops_nil ?_
          refine gcut3_end (()) (trivial) ⟨(congrArg (Value.int .i64) (by first | (rw [if_pos hc35]; done) | (rw [if_neg (by simp [hc35])]; done))), trivial⟩ ⟨rfl, rfl, rfl, rfl, trivial⟩ ⟨_, rfl⟩
        · 
          refine gskip ?_
          refine gcut3_end (()) (trivial) ⟨(congrArg (Value.int .i64) (by first | (rw [if_pos hc35]; done) | (rw [if_neg (by simp [hc35])]; done))), trivial⟩ ⟨rfl, rfl, rfl, rfl, trivial⟩ ⟨_, rfl⟩
      ·
        intro g hcut σ
        refine hN9 _ _ ?_
        refine gseq fun N11 hN11 => ?_
        refine greg ?_
        refine gop (y_move (v := .pointer (some ⟨bg, 0, none⟩)) rfl) rfl rfl rfl ?_
        refine gop (y_loads (cs := [_]) Tryd.isAgg24 Tryd.sizeOf24 rfl rfl (cells_box 3 rfl)) rfl rfl rfl ?_
        refine gop (y_fieldAddr_box fa47_2 rfl) rfl rfl rfl ?_
        refine gop (y_load Tryd.isAgg3 rfl (cell_box 4 rfl rfl)) rfl rfl rfl ?_
        refine gop (y_move (v := .bool _) rfl) rfl rfl rfl ?_
        refine gop_does2 0 1 (fun v r s G => ∃ B' bc', v = .int .i64 (((o).length + (nrm d x).size : Nat) - 1) ∧ r = box bg (.cells #[.slice B' ((o ++ post (nrm d x) (o).length).length) bc'] 52) ∧ s = rowl pnCells w0.heap.size 47 4 (.slice B' (o ++ post (nrm d x) (o).length).length bc') (o ++ post (nrm d x) (o).length) ∧ G = []) (e_call (vs := [.pointer (some ⟨bg, 0, none⟩), .agg #[_], .int _ _, .bool _]) Tryd.func25 rfl (by kernel_rfl) rfl) rfl rfl rfl (fun w fr1 hfr hM => (ih d.size (by omega) d x _ q w _ _ (o) fr1 rfl hdl hdo hdt (by omega) hM).mono fun _ _ ⟨B', bc', h1, h2⟩ => ⟨_, _, _, [], h1, ⟨B', bc', rfl, rfl, rfl, rfl⟩, h2⟩) rfl rfl rfl ?_
        rintro _ _ _ _ ⟨B43, bc43, rfl, rfl, rfl, rfl⟩
        refine gop (y_assign (v := .int _ _) rfl) rfl rfl rfl ?_
        refine gops_nil ?_
        refine hN11 _ _ ?_
        refine gT [box bg _, rowl _ _ _ _ _ _, fr, box b5 _, box b9 _] rfl ?_
        refine gfrom [(0, .pointer (some ⟨bg, 0, none⟩)), (3, .bool _), (5, .pointer _), (9, .pointer _), (10, .int _ _), (11, .int _ _)] ⟨rfl, rfl, rfl, rfl, rfl, rfl, trivial⟩ fun σ => ?_
        refine gseq fun N12 hN12 => ?_
        refine greg ?_
        refine gop (y_move (v := .pointer (some ⟨bg, 0, none⟩)) rfl) rfl rfl rfl ?_
        refine gop (y_loads (cs := [_]) Tryd.isAgg24 Tryd.sizeOf24 rfl rfl (cells_box 3 rfl)) rfl rfl rfl ?_
        refine gop (y_fieldAddr_box fa47_3 rfl) rfl rfl rfl ?_
        refine gop (y_load Tryd.isAgg3 rfl (cell_box 4 rfl rfl)) rfl rfl rfl ?_
        refine gop (y_move (v := .bool _) rfl) rfl rfl rfl ?_
        refine gop_does2 0 1 (fun v r s G => ∃ B' bc', v = .int .i64 (((o ++ post (nrm d x) o.length).length + (nrm b x).size : Nat) - 1) ∧ r = box bg (.cells #[.slice B' ((o ++ post (nrm d x) o.length ++ post (nrm b x) (o ++ post (nrm d x) o.length).length).length) bc'] 52) ∧ s = rowl pnCells w0.heap.size 47 4 (.slice B' (o ++ post (nrm d x) o.length ++ post (nrm b x) (o ++ post (nrm d x) o.length).length).length bc') (o ++ post (nrm d x) o.length ++ post (nrm b x) (o ++ post (nrm d x) o.length).length) ∧ G = []) (e_call (vs := [.pointer (some ⟨bg, 0, none⟩), .agg #[_], .int _ _, .bool _]) Tryd.func25 rfl (by kernel_rfl) rfl) rfl rfl rfl (fun w fr1 hfr hM => (ih b.size (by omega) b x _ (m - 1) w _ _ (o ++ post (nrm d x) o.length) fr1 rfl hbr hbo hbt (by omega) hM).mono fun _ _ ⟨B', bc', h1, h2⟩ => ⟨_, _, _, [], h1, ⟨B', bc', rfl, rfl, rfl, rfl⟩, h2⟩) rfl rfl rfl ?_
        rintro _ _ _ _ ⟨B49, bc49, rfl, rfl, rfl, rfl⟩
        refine gop (y_assign (v := .int _ _) rfl) rfl rfl rfl ?_
        refine gops_nil ?_
        refine hN12 _ _ ?_
        refine gT [box bg _, rowl _ _ _ _ _ _, fr, box b5 _, box b9 _] rfl ?_
        refine gfrom [(0, .pointer (some ⟨bg, 0, none⟩)), (10, .int _ _), (11, .int _ _), (12, .int _ _)] ⟨rfl, rfl, rfl, rfl, trivial⟩ fun σ => ?_
        refine gseq fun N13 hN13 => ?_
        refine greg ?_
        refine gop (y_move (v := .pointer (some ⟨bg, 0, none⟩)) rfl) rfl rfl rfl ?_
        refine gop (y_move (v := .int _ _) rfl) rfl rfl rfl ?_
        refine gop (y_move (v := .int _ _) rfl) rfl rfl rfl ?_
        refine gop (y_move (v := .int _ _) rfl) rfl rfl rfl ?_
        refine gop (y_build (vs := [(0, .int _ _), (2, .int _ _), (3, .int _ _)]) (cells := #[_, .int .i64 0, _, _]) rfl (bd47_0_2_3 _ _ _)) rfl rfl rfl ?_
        refine gop_does2 0 1 (fun v r s G => ∃ B' bc', v = .int .i64 (((o ++ post (nrm d x) o.length) ++ post (nrm b x) (o ++ post (nrm d x) o.length).length).length : Nat) ∧ r = box bg (.cells #[.slice B' (((o ++ post (nrm d x) o.length) ++ post (nrm b x) (o ++ post (nrm d x) o.length).length ++ [(⟨if x = true then 13 - l[m].kind else l[m].kind, 0, ((o.length + (nrm d x).size : Nat) : Int) - 1, (((o ++ post (nrm d x) o.length).length + (nrm b x).size : Nat) : Int) - 1⟩ : PN)]).length) bc'] 52) ∧ s = rowl pnCells w0.heap.size 47 4 (.slice B' ((o ++ post (nrm d x) o.length) ++ post (nrm b x) (o ++ post (nrm d x) o.length).length ++ [(⟨if x = true then 13 - l[m].kind else l[m].kind, 0, ((o.length + (nrm d x).size : Nat) : Int) - 1, (((o ++ post (nrm d x) o.length).length + (nrm b x).size : Nat) : Int) - 1⟩ : PN)]).length bc') ((o ++ post (nrm d x) o.length) ++ post (nrm b x) (o ++ post (nrm d x) o.length).length ++ [(⟨if x = true then 13 - l[m].kind else l[m].kind, 0, ((o.length + (nrm d x).size : Nat) : Int) - 1, (((o ++ post (nrm d x) o.length).length + (nrm b x).size : Nat) : Int) - 1⟩ : PN)]) ∧ G = []) (e_call (vs := [.pointer (some ⟨bg, 0, none⟩), .agg #[_, _, _, _]]) Tryd.func41 rfl (by kernel_rfl) rfl) rfl rfl rfl (fun w fr1 hfr hM => (polAdd1_any _ w bg _ _ ((o ++ post (nrm d x) o.length) ++ post (nrm b x) (o ++ post (nrm d x) o.length).length) fr1 hM (by omega) ((⟨if x = true then 13 - l[m].kind else l[m].kind, 0, ((o.length + (nrm d x).size : Nat) : Int) - 1, (((o ++ post (nrm d x) o.length).length + (nrm b x).size : Nat) : Int) - 1⟩ : PN))).mono fun _ _ ⟨B', bc', h1, h2⟩ => ⟨_, _, _, [], h1, ⟨B', bc', rfl, rfl, rfl, rfl⟩, h2⟩) rfl rfl rfl ?_
        rintro _ _ _ _ ⟨B55, bc55, rfl, rfl, rfl, rfl⟩
        refine gop (y_assign (v := .int _ _) rfl) rfl rfl rfl ?_
        refine gops_nil ?_
        refine hN13 _ _ ?_
        refine gT [box bg _, rowl _ _ _ _ _ _, fr, box b5 _, box b9 _] rfl ?_
        refine gfrom [(8, .int _ _)] ⟨rfl, trivial⟩ fun σ => ?_
        refine gret fun w1 hM => ?_
        refine ⟨_, res1 rfl (rt (v := .int _ _) rfl), ?_⟩
        rw [hn, ← post_bin_app]
        exact ⟨B55, bc55, congrArg (fun z => Ending.returned (Value.int .i64 z)) (by rw [hal2, hal1, size_bin]; omega), weak_take (T' := [_, _, fr]) rfl _ hM⟩
    · 
      replace hc31 := of_decide_eq_false hc31
      have hlf := opN_zero (by omega) (by omega) ⟨hk1, hk7⟩
      obtain ⟨-, -, htl, -⟩ := hsm hlf
      have hnode : l[m] = ⟨l[m].kind, l[m].number, 0, 0⟩ := leaf_node (htl ▸ hat) hm1
      refine gskip ?_
      refine hN3 _ _ ?_
      refine gfrom [(0, .pointer (some ⟨bg, 0, none⟩)), (3, .bool _), (9, .pointer _)] ⟨rfl, rfl, rfl, trivial⟩ fun σ => ?_
      refine gseq fun N14 hN14 => ?_
      refine greg ?_
      refine gop (y_move (v := .pointer (some ⟨bg, 0, none⟩)) rfl) rfl rfl rfl ?_
      refine gop (y_loads (cs := [_, _, _, _]) Tryd.isAgg47 Tryd.sizeOf47 rfl rfl (cells_box 4 rfl)) rfl rfl rfl ?_
      refine gop_does2 0 1 (fun v r s G => ∃ B' bc', v = .int .i64 ((o).length : Nat) ∧ r = box bg (.cells #[.slice B' ((o ++ [l[m]]).length) bc'] 52) ∧ s = rowl pnCells w0.heap.size 47 4 (.slice B' (o ++ [l[m]]).length bc') (o ++ [l[m]]) ∧ G = []) (e_call (vs := [.pointer (some ⟨bg, 0, none⟩), .agg #[_, _, _, _]]) Tryd.func41 rfl (by kernel_rfl) rfl) rfl rfl rfl (fun w fr1 hfr hM => (polAdd1_any _ w bg _ _ (o) fr1 hM (by omega) (l[m])).mono fun _ _ ⟨B', bc', h1, h2⟩ => ⟨_, _, _, [], h1, ⟨B', bc', rfl, rfl, rfl, rfl⟩, h2⟩) rfl rfl rfl ?_
      rintro _ _ _ _ ⟨B58, bc58, rfl, rfl, rfl, rfl⟩
      refine gop (y_assign (v := .int _ _) rfl) rfl rfl rfl ?_
      refine gops_nil ?_
      refine hN14 _ _ ?_
      refine gT [box bg _, rowl _ _ _ _ _ _, fr, box b5 _, box b9 _] rfl ?_
      refine gfrom [(0, .pointer (some ⟨bg, 0, none⟩)), (3, .bool _), (13, .int _ _)] ⟨rfl, rfl, rfl, trivial⟩ fun σ => ?_
      refine gseq fun N15 hN15 => ?_
      refine gseq fun N16 hN16 => ?_
      refine greg ?_
      refine gop (y_move (v := .bool _) rfl) rfl rfl rfl ?_
      refine gops_nil ?_
      refine hN16 _ _ ?_
      refine gfrom [(0, .pointer (some ⟨bg, 0, none⟩)), (13, .int _ _), (59, .bool _)] ⟨rfl, rfl, rfl, trivial⟩ fun σ => ?_
      refine gcond (b := _) rfl (fun hc59 => ?_) (fun hc59 => ?_)
      · 
        have hn : nrm t x = .neg (.leaf l[m].kind l[m].number) := by rw [htl, nrm, if_pos hc59]
        refine greg ?_
        refine gop (y_move (v := .pointer (some ⟨bg, 0, none⟩)) rfl) rfl rfl rfl ?_
        refine gop (y_move (v := .int _ _) rfl) rfl rfl rfl ?_
        refine gop (y_build (vs := [(0, _), (2, .int _ _)]) (cells := #[_, .int .i64 0, _, .int .i64 0]) rfl (bd47_0_2 _ _)) rfl rfl rfl ?_
        refine gop_does2 0 1 (fun v r s G => ∃ B' bc', v = .int .i64 ((o ++ [l[m]]).length : Nat) ∧ r = box bg (.cells #[.slice B' ((o ++ [l[m]] ++ [(⟨5, 0, ((o.length : Nat) : Int), 0⟩ : PN)]).length) bc'] 52) ∧ s = rowl pnCells w0.heap.size 47 4 (.slice B' (o ++ [l[m]] ++ [(⟨5, 0, ((o.length : Nat) : Int), 0⟩ : PN)]).length bc') (o ++ [l[m]] ++ [(⟨5, 0, ((o.length : Nat) : Int), 0⟩ : PN)]) ∧ G = []) (e_call (vs := [.pointer (some ⟨bg, 0, none⟩), .agg #[_, _, _, _]]) Tryd.func41 rfl (by kernel_rfl) rfl) rfl rfl rfl (fun w fr1 hfr hM => (polAdd1_any _ w bg _ _ (o ++ [l[m]]) fr1 hM (by simp; omega) ((⟨5, 0, ((o.length : Nat) : Int), 0⟩ : PN))).mono fun _ _ ⟨B', bc', h1, h2⟩ => ⟨_, _, _, [], h1, ⟨B', bc', rfl, rfl, rfl, rfl⟩, h2⟩) rfl rfl rfl ?_
        rintro _ _ _ _ ⟨B63, bc63, rfl, rfl, rfl, rfl⟩
        refine gop (y_assign (v := .int _ _) rfl) rfl rfl rfl ?_
        refine gops_nil ?_
        refine hN15 _ _ ?_
        refine gT [box bg _, rowl _ _ _ _ _ _, fr, box b5 _, box b9 _] rfl ?_
        refine gfrom [(13, .int _ _)] ⟨rfl, trivial⟩ fun σ => ?_
        refine gseq fun N17 hN17 => ?_
        refine greg ?_
        refine gop (y_move (v := .int _ _) rfl) rfl rfl rfl ?_
        refine gop (y_assign (v := .int _ _) rfl) rfl rfl rfl ?_
        refine gops_nil ?_
        refine hN17 _ _ ?_
        refine gfrom [(8, .int _ _)] ⟨rfl, trivial⟩ fun σ => ?_
        refine gret fun w1 hM => ?_
        refine ⟨_, res1 rfl (rt (v := .int _ _) rfl), ?_⟩
        first
        | (have e1 : o ++ post (nrm t x) o.length = o ++ [l[m]] ++ [(⟨5, 0, ((o.length : Nat) : Int), 0⟩ : PN)] := by
             rw [hn, post, post, ← hnode, List.append_assoc]
             simp only [Tr.size]
             congr 4
             omega
           rw [e1]
           exact ⟨B63, bc63, congrArg (fun z => Ending.returned (Value.int .i64 z)) (by rw [hn]; simp only [Tr.size, List.length_append, List.length_cons, List.length_nil]; omega), weak_take (T' := [_, _, fr]) rfl _ hM⟩)
        | (have e1 : o ++ post (nrm t x) o.length = o ++ [l[m]] := by rw [hn, post, ← hnode]
           rw [e1]
           exact ⟨B58, bc58, congrArg (fun z => Ending.returned (Value.int .i64 z)) (by rw [hn]; simp only [Tr.size]; omega), weak_take (T' := [_, _, fr]) rfl _ hM⟩)
      · 
        have hn : nrm t x = .leaf l[m].kind l[m].number := by rw [htl, nrm, if_neg (by simp [hc59])]
        refine gskip ?_
        refine hN15 _ _ ?_
        refine gfrom [(13, .int _ _)] ⟨rfl, trivial⟩ fun σ => ?_
        refine gseq fun N18 hN18 => ?_
        refine greg ?_
        refine gop (y_move (v := .int _ _) rfl) rfl rfl rfl ?_
        refine gop (y_assign (v := .int _ _) rfl) rfl rfl rfl ?_
        refine gops_nil ?_
        refine hN18 _ _ ?_
        refine gfrom [(8, .int _ _)] ⟨rfl, trivial⟩ fun σ => ?_
        refine gret fun w1 hM => ?_
        refine ⟨_, res1 rfl (rt (v := .int _ _) rfl), ?_⟩
        first
        | (have e1 : o ++ post (nrm t x) o.length = o ++ [l[m]] ++ [(⟨5, 0, ((o.length : Nat) : Int), 0⟩ : PN)] := by
             rw [hn, post, post, ← hnode, List.append_assoc]
             simp only [Tr.size]
             congr 4
             omega
           rw [e1]
           exact ⟨B63, bc63, congrArg (fun z => Ending.returned (Value.int .i64 z)) (by rw [hn]; simp only [Tr.size, List.length_append, List.length_cons, List.length_nil]; omega), weak_take (T' := [_, _, fr]) rfl _ hM⟩)
        | (have e1 : o ++ post (nrm t x) o.length = o ++ [l[m]] := by rw [hn, post, ← hnode]
           rw [e1]
           exact ⟨B58, bc58, congrArg (fun z => Ending.returned (Value.int .i64 z)) (by rw [hn]; simp only [Tr.size]; omega), weak_take (T' := [_, _, fr]) rfl _ hM⟩)
end Go.Proofs.YtllblbkbglifjaaDoor
namespace Go.Proofs.YtllblbkbglifjaaDoor
open Go.RowKit Go.Cf
set_option maxRecDepth 10000
set_option maxHeartbeats 4000000 in
theorem polNormal_any (w : World) (A : Option Addr) (c : Nat) (l : List PN) (hl : Rdl w 0 4 pnCells A l) (hlc : l.length ≤ c) (hcm : c ≤ maxLen) :
    Calls Tryd.prog 11 #[.agg #[.slice A l.length c]] w fun e w' => ∃ pv, e = .returned (.tuple #[.agg #[pv], fv (norR l).1]) ∧ Below w.heap.size w w' ∧ NewL 4 pnCells (norR l).2 w.heap.size w' pv := by
  have hlm : l.length ≤ 9223372036854775807 := by have h9 := Nat.le_trans hlc hcm; unfold maxLen at h9; omega
  refine gcalls Tryd.func11 rfl Tryd.ntmps11 (Nat.le_of_ble_eq_true rfl) ?_
  refine gfrom [(0, .agg #[_])] ⟨rfl, trivial⟩ fun σ => ?_
  refine gseq fun N1 hN1 => ?_
  refine greg ?_
  refine gop_box (v := .agg #[_]) (cs := #[_]) rfl rfl rfl (fun b1 hb1 => ?_)
  refine gop_alloc (cs := #[.slice none 0 0]) Tryd.zeroValue24 rfl rfl (fun b2 hb2 => ?_)
  refine gop_alloc (cs := #[.int .i64 0, .int .i64 0]) Tryd.zeroValue28 rfl rfl (fun b3 hb3 => ?_)
  refine gops_nil ?_
  refine hN1 _ _ ?_
  refine gT [box b1 _, box b2 _, box b3 _] rfl ?_
  refine gfrom [(1, .pointer _), (2, .pointer _), (3, .pointer _)] ⟨rfl, rfl, rfl, trivial⟩ fun σ => ?_
  refine gseq fun N2 hN2 => ?_
  refine gseq fun N3 hN3 => ?_
  refine greg ?_
  refine gop (y_loads (cs := [_]) Tryd.isAgg24 Tryd.sizeOf24 rfl rfl (cells_box 0 rfl)) rfl rfl rfl ?_
  refine gop_pure (e_call (vs := [.agg #[_]]) Tryd.func13 rfl (by kernel_rfl) rfl) (fun w hM => polValidate_any w A c l (hl.base hM) hlc hcm) rfl rfl rfl ?_
  refine gop_alloc (cs := #[.int .i64 0, .int .i64 0]) Tryd.zeroValue28 rfl rfl (fun b4 hb4 => ?_)
  refine gop_store 3 (v := .agg #[_, _]) (cs' := #[_, _]) rfl rfl Tryd.sizeOf28 rfl rfl rfl rfl (Nat.le_of_ble_eq_true rfl) rfl rfl ?_
  refine gops_nil ?_
  refine hN3 _ _ ?_
  refine gT [box b1 _, box b2 _, box b3 _, box b4 _] rfl ?_
  refine gfrom [(1, .pointer _), (2, .pointer _), (3, .pointer _), (4, .pointer _)] ⟨rfl, rfl, rfl, rfl, trivial⟩ fun σ => ?_
  refine gseq fun N4 hN4 => ?_
  refine greg ?_
  refine gop (y_loads (cs := [_, _]) Tryd.isAgg28 Tryd.sizeOf28 rfl rfl (cells_box 3 rfl)) rfl rfl rfl ?_
  refine gop (y_build (vs := []) (cells := #[.int .i64 0, .int .i64 0]) rfl bd28_) rfl rfl rfl ?_
  refine gop (y_bin (vx := .agg #[_, _]) (vy := .agg #[_, _]) rfl rfl (fun w => eg28 _ _ _ _ _ w) (fun w => ne28 _ _ _ _ w)) rfl rfl rfl ?_
  refine gops_nil ?_
  refine hN4 _ _ ?_
  refine gfrom [(1, .pointer _), (2, .pointer _), (3, .pointer _), (4, .pointer _), (10, .bool _)] ⟨rfl, rfl, rfl, rfl, rfl, trivial⟩ fun σ => ?_
  refine gcond (b := _) rfl (fun hc10 => ?_) (fun hc10 => ?_)
  · 
    replace hc10 := fault_ne.1 hc10
    have hN : norR l = (polF l, []) := by rw [norR, if_pos hc10]
    refine gseq fun N5 hN5 => ?_
    refine greg_e1 [] [(1, room b2 24 1), (2, room b3 28 2)] (by kernel_rfl) ?_
    refine ge_take 0 (TK := [box b1 _, room b2 24 1, room b3 28 2, box b4 _]) rfl (by kernel_rfl) (by kernel_rfl) (by kernel_rfl) #[false, true, false, false] (by kernel_rfl) rfl (y_build (vs := []) (cells := #[.slice none 0 0]) rfl bd24_) rfl rfl rfl (weak_trans (weak_room 1 rfl rfl) (weak_room 2 rfl rfl)) (listed' := #[true, false, false, false]) rfl ?_
    refine ge_take 1 (TK := [box b1 _, room b2 24 1, room b3 28 2, box b4 _]) rfl (by kernel_rfl) (by kernel_rfl) (by kernel_rfl) #[true, false, true, false] (by kernel_rfl) rfl (y_loads (cs := [_, _]) Tryd.isAgg28 Tryd.sizeOf28 rfl rfl (cells_box 3 rfl)) rfl rfl rfl (weak_trans (weak_room 1 rfl rfl) (weak_room 2 rfl rfl)) (listed' := #[true, true, false, false]) rfl ?_
    refine ge_one 2 (k' := 0) (listed' := #[true, true, true, false]) (by kernel_rfl) rfl rfl rfl ?_
    refine gop_store 1 (v := .agg #[_]) (cs' := #[_]) rfl rfl Tryd.sizeOf24 rfl rfl rfl rfl (Nat.le_of_ble_eq_true rfl) rfl rfl ?_
    refine gops_nil ?_
    refine ge_fin (TK := [box b1 _, room b2 24 1, room b3 28 2, box b4 _]) rfl (weak_trans (weak_room 1 rfl rfl) (weak_room 2 rfl rfl)) ?_
    refine ge_one 3 (k' := 0) (listed' := #[true, true, true, true]) (by kernel_rfl) rfl rfl rfl ?_
    refine gop_store 2 (v := .agg #[_, _]) (cs' := #[_, _]) rfl rfl Tryd.sizeOf28 rfl rfl rfl rfl (Nat.le_of_ble_eq_true rfl) rfl rfl ?_
    refine gops_nil ?_
    refine ge_fin (TK := [box b1 _, room b2 24 1, room b3 28 2, box b4 _]) rfl (weak_trans (weak_room 1 rfl rfl) (weak_room 2 rfl rfl)) ?_
    refine ge_done (by kernel_rfl) ?_
    refine hN5 _ _ ?_
    refine gT [box b1 _, box b2 _, box b3 _, box b4 _] rfl ?_
    refine gfrom [(2, .pointer _), (3, .pointer _)] ⟨rfl, rfl, trivial⟩ fun σ => ?_
    refine gret fun w1 hM => ?_
    refine ⟨_, res2 rfl (rc 1 (cs := [_]) hM rfl rfl Tryd.isAgg24 Tryd.sizeOf24 rfl) (rc 2 (cs := [_, _]) hM rfl rfl Tryd.isAgg28 Tryd.sizeOf28 rfl), ?_⟩
    rw [hN]
    exact ⟨_, rfl, hM.low, newL_nil⟩
  · 
    replace hc10 := fault_eq.1 hc10
    obtain ⟨hn0, hn24, -⟩ := pol_ok hc10
    have ht := tree_of hc10
    have htl := ht.len
    have hN : norR l = madeR (nrm (treeOf l) false) := by rw [norR, if_neg (fun h => h hc10)]
    refine gskip ?_
    refine hN2 _ _ ?_
    refine gfrom [(1, .pointer _), (2, .pointer _), (3, .pointer _)] ⟨rfl, rfl, rfl, trivial⟩ fun σ => ?_
    refine gseq fun N6 hN6 => ?_
    refine greg ?_
    refine gop_alloc (cs := #[.slice none 0 0]) Tryd.zeroValue52 rfl rfl (fun b5 hb5 => ?_)
    refine gops_nil ?_
    refine hN6 _ _ ?_
    refine gT [box b1 _, box b2 _, box b3 _, box b4 _, box b5 _] rfl ?_
    refine gfrom [(1, .pointer _), (2, .pointer _), (3, .pointer _), (5, .pointer _)] ⟨rfl, rfl, rfl, rfl, trivial⟩ fun σ => ?_
    refine gseq fun N7 hN7 => ?_
    refine greg ?_
    refine gop (y_loads (cs := [_]) Tryd.isAgg24 Tryd.sizeOf24 rfl rfl (cells_box 0 rfl)) rfl rfl rfl ?_
    refine gop (y_fieldAddr_box fa24_0 rfl) rfl rfl rfl ?_
    refine gop (y_load Tryd.isAgg22 rfl (cell_box 0 rfl rfl)) rfl rfl rfl ?_
    refine gop (y_len Tryd.underlying22 rfl) rfl rfl rfl ?_
    refine gop (y_sub rfl rfl ⟨by omega, by omega⟩) rfl rfl rfl ?_
    refine gops_nilrow pnCells 47 4 ?_
    refine gop_does2 4 5 (fun v r s G => ∃ B' bc', v = .int .i64 ((([] : List PN).length + (nrm (treeOf l) false).size : Nat) - 1) ∧ r = box b5 (.cells #[.slice B' (post (nrm (treeOf l) false) 0).length bc'] 52) ∧ s = rowl pnCells w.heap.size 47 4 (.slice B' (post (nrm (treeOf l) false) 0).length bc') (post (nrm (treeOf l) false) 0) ∧ G = []) (e_call (vs := [.pointer _, .agg #[_], .int _ _, _]) Tryd.func25 rfl (by kernel_rfl) rfl) rfl rfl rfl (fun w fr1 hfr hM => (polNormal1_any _ A c l hl hlc hcm b5 (treeOf l).size (treeOf l) false _ (l.length - 1) w _ _ [] fr1 rfl (by omega) ht.ok ht.at_ (by simp; omega) hM).mono fun _ _ ⟨B', bc', h1, h2⟩ => ⟨_, _, _, [], h1, ⟨B', bc', rfl, rfl, rfl, rfl⟩, h2⟩) rfl rfl rfl ?_
    rintro _ _ _ _ ⟨B18, bc18, rfl, rfl, rfl, rfl⟩
    refine gops_fact (fun w hM => row_form (hM.ok _ (List.mem_of_getElem? (i := 5) rfl))) ?_
    rintro ⟨A18, c18, hv18, hc18, hm18, hn18⟩
    simp only [Value.slice.injEq] at hv18
    obtain ⟨rfl, -, rfl⟩ := hv18
    refine gops_nil ?_
    refine hN7 _ _ ?_
    refine gT [box b1 _, box b2 _, box b3 _, box b4 _, box b5 _, rowl _ _ _ _ _ _] rfl ?_
    refine gfrom [(2, .pointer _), (3, .pointer _), (5, .pointer _)] ⟨rfl, rfl, rfl, trivial⟩ fun σ => ?_
    refine gseq fun N8 hN8 => ?_
    refine greg ?_
    refine gop_pure (e_call (vs := [.pointer _]) Tryd.func26 rfl (by kernel_rfl) rfl) (fun w hM => polMade1_any w b5 _ _ (nrm (treeOf l) false) (nrm_ok _ false ht.ok).1 (by have h9 := (nrm_ok _ false ht.ok).2; omega) (cell_box 4 (off := 0) rfl rfl w hM) ((row_rdl (f := pnCells) (fun _ => rfl) (hM.ok _ (List.mem_of_getElem? (i := 5) rfl))).mono (Nat.zero_le _)) hc18 hm18) rfl rfl rfl ?_
    refine gop (y_extract (v := .agg #[_]) rfl rfl) rfl rfl rfl ?_
    refine gop (y_extract (v := .agg #[_, _]) rfl rfl) rfl rfl rfl ?_
    refine gop_store 1 (v := .agg #[_]) (cs' := #[_]) rfl rfl Tryd.sizeOf24 rfl rfl rfl rfl (Nat.le_of_ble_eq_true rfl) rfl rfl ?_
    refine gop_store 2 (v := .agg #[_, _]) (cs' := #[_, _]) rfl rfl Tryd.sizeOf28 rfl rfl rfl rfl (Nat.le_of_ble_eq_true rfl) rfl rfl ?_
    refine gops_nil ?_
    refine hN8 _ _ ?_
    refine gT [box b1 _, box b2 _, box b3 _, box b4 _, box b5 _, rowl _ _ _ _ _ _] rfl ?_
    refine gfrom [(2, .pointer _), (3, .pointer _)] ⟨rfl, rfl, trivial⟩ fun σ => ?_
    refine gret fun w1 hM => ?_
    refine ⟨_, res2 rfl (rc 1 (cs := [_]) hM rfl rfl Tryd.isAgg24 Tryd.sizeOf24 rfl) (rc 2 (cs := [_, _]) hM rfl rfl Tryd.isAgg28 Tryd.sizeOf28 rfl), ?_⟩
    rw [hN]
    by_cases hB : 24 < (nrm (treeOf l) false).size ∨ 12 < (nrm (treeOf l) false).depth
    · have hm : (madeR (nrm (treeOf l) false)).2 = [] := by rw [madeR, if_pos hB]
      refine ⟨_, rfl, hM.low, ?_⟩
      rw [hm]
      simp only [if_pos hB]
      exact newL_nil
    · have hm : (madeR (nrm (treeOf l) false)).2 = post (nrm (treeOf l) false) 0 := by rw [madeR, if_neg hB]
      refine ⟨_, rfl, hM.low, ?_⟩
      rw [hm]
      simp only [if_neg hB]
      exact hM.newL 5 rfl (fun _ => rfl)
end Go.Proofs.YtllblbkbglifjaaDoor
namespace Go.Proofs.YtllblbkbglifjaaDoor
open Go.RowKit Go.Cf
set_option maxRecDepth 10000
set_option maxHeartbeats 8000000 in
theorem refNegated_any (w0 : World) (A : Option Addr) (c : Nat) (l : List PN) (hl : Rdl w0 0 4 pnCells A l) (hlc : l.length ≤ c) (hcm : c ≤ maxLen) (z : Nat) : ∀ (t : Tr) (x : Bool) (i : Int) (m : Nat) (w : World) (B : Option Addr) (bc : Nat) (o : List PN) (fr : Reg), t.size = z → i = (m : Int) → t.ok → At l m t → o.length + 2 * t.size ≤ 900 →
    Mem w0 [rowl pnCells w0.heap.size 47 4 (.slice B (o).length bc) (o), fr] w → Calls Tryd.prog 18 #[.agg #[.slice A l.length c], .int .i64 i, .bool x, .slice B o.length bc] w fun e w' => ∃ B' bc', e = .returned (.slice B' (o ++ post (nrm t x) o.length).length bc') ∧ Mem w0 [rowl pnCells w0.heap.size 47 4 (.slice B' (o ++ post (nrm t x) o.length).length bc') (o ++ post (nrm t x) o.length), fr] w' := by
  have hlm : l.length ≤ 9223372036854775807 := by have h9 := Nat.le_trans hlc hcm; unfold maxLen at h9; omega
  refine Nat.strongRecOn z ?_
  intro z ih t x i m w B bc o fr hz hi hok hat hol hM0
  have hm1 := hat.lt
  obtain ⟨ad, rfl, -, hca⟩ := hl.at_ hm1
  obtain ⟨hsm, -⟩ := tree_at hok hat hm1
  obtain ⟨hk1, hk7⟩ := tree_kind hok hat hm1
  have hps := t.pos
  have hnr := nrm_ok t x hok
  refine gcallsT Tryd.func18 rfl Tryd.ntmps18 (Nat.le_of_ble_eq_true rfl) hM0 ?_
  refine gfrom [(0, .agg #[_]), (1, .int _ _), (2, .bool _), (3, .slice B _ bc)] ⟨rfl, rfl, rfl, rfl, trivial⟩ fun σ => ?_
  refine gseq fun N1 hN1 => ?_
  refine greg ?_
  refine gop_box (v := .agg #[_]) (cs := #[_]) rfl rfl rfl (fun b4 hb4 => ?_)
  refine gop (y_assign (v := .slice _ _ _) rfl) rfl rfl rfl ?_
  refine gops_nil ?_
  refine hN1 _ _ ?_
  refine gT [rowl _ _ _ _ _ _, fr, box b4 _] rfl ?_
  refine gfrom [(1, .int _ _), (2, .bool _), (3, .slice B _ bc), (4, .pointer _)] ⟨rfl, rfl, rfl, rfl, trivial⟩ fun σ => ?_
  refine gseq fun N2 hN2 => ?_
  refine greg ?_
  refine gop (y_fieldAddr_box fa24_0 rfl) rfl rfl rfl ?_
  refine gop (y_load Tryd.isAgg22 rfl (cell_box 2 rfl rfl)) rfl rfl rfl ?_
  refine gop (y_move (v := .int _ _) rfl) rfl rfl rfl ?_
  refine gop (y_indexAddr (m := m) Tryd.underlying22 Tryd.sizeOf47 rfl rfl (by omega) (by omega) (by omega)) rfl rfl rfl ?_
  refine gop (y_loads (cs := [_, _, _, _]) Tryd.isAgg47 Tryd.sizeOf47 rfl rfl (cells_base hca)) rfl rfl rfl ?_
  refine gop_alloc (cs := #[.int .i64 0, .int .i64 0, .int .i64 0, .int .i64 0]) Tryd.zeroValue47 rfl rfl (fun b9 hb9 => ?_)
  refine gop_store 3 (v := .agg #[_, _, _, _]) (cs' := #[_, _, _, _]) rfl rfl Tryd.sizeOf47 rfl rfl rfl rfl (Nat.le_of_ble_eq_true rfl) rfl rfl ?_
  refine gops_nil ?_
  refine hN2 _ _ ?_
  refine gT [rowl _ _ _ _ _ _, fr, box b4 _, box b9 _] rfl ?_
  refine gfrom [(2, .bool _), (3, .slice B _ bc), (4, .pointer _), (9, .pointer _)] ⟨rfl, rfl, rfl, rfl, trivial⟩ fun σ => ?_
  refine gseq fun N3 hN3 => ?_
  refine gseq fun N4 hN4 => ?_
  refine greg ?_
  refine gop (y_fieldAddr_box fa47_0 rfl) rfl rfl rfl ?_
  refine gop (y_load Tryd.isAgg3 rfl (cell_box 3 rfl rfl)) rfl rfl rfl ?_
  refine gop (y_eql rfl rfl) rfl rfl rfl ?_
  refine gops_nil ?_
  refine hN4 _ _ ?_
  refine gfrom [(2, .bool _), (3, .slice B _ bc), (4, .pointer _), (9, .pointer _), (19, .bool _)] ⟨rfl, rfl, rfl, rfl, rfl, trivial⟩ fun σ => ?_
  refine gcond (b := _) rfl (fun hc19 => ?_) (fun hc19 => ?_)
  · 
    replace hc19 := of_decide_eq_true hc19
    have hnk : ¬ l[m].kind < 5 := by omega
    obtain ⟨hi1, hk7, d, q, hdo, hdt, hdl, hds, hdq, h5, h67⟩ := tree_big hok hat hm1 hnk
    have hdp := depth_pos d
    have hdz := hdt.size_le
    have hte := h5 hc19
    have hn : nrm t x = nrm d (!x) := by rw [hte, nrm]
    have hsd : t.size = d.size + 1 := by rw [hte]; rfl
    refine gseq fun N5 hN5 => ?_
    refine greg ?_
    refine gop (y_loads (cs := [_]) Tryd.isAgg24 Tryd.sizeOf24 rfl rfl (cells_box 2 rfl)) rfl rfl rfl ?_
    refine gop (y_fieldAddr_box fa47_2 rfl) rfl rfl rfl ?_
    refine gop (y_load Tryd.isAgg3 rfl (cell_box 3 rfl rfl)) rfl rfl rfl ?_
    refine gop (y_move (v := .bool _) rfl) rfl rfl rfl ?_
    refine gop (y_not rfl) rfl rfl rfl ?_
    refine gop (y_move (v := .slice B _ bc) rfl) rfl rfl rfl ?_
    refine gop_does1 0 (fun v r G => ∃ B' bc', v = .slice B' (o ++ post (nrm d (!x)) (o).length).length bc' ∧ r = rowl pnCells w0.heap.size 47 4 (.slice B' (o ++ post (nrm d (!x)) (o).length).length bc') (o ++ post (nrm d (!x)) (o).length) ∧ G = []) (e_call (vs := [.agg #[_], .int _ _, .bool _, .slice B _ bc]) Tryd.func18 rfl (by kernel_rfl) rfl) rfl (fun w fr1 hfr hM => (ih d.size (by omega) d (!x) _ q w _ _ (o) fr1 rfl hdl hdo hdt (by omega) hM).mono fun _ _ ⟨B', bc', h1, h2⟩ => ⟨_, _, [], h1, ⟨B', bc', rfl, rfl, rfl⟩, h2⟩) rfl rfl rfl ?_
    rintro _ _ _ ⟨B26, bc26, rfl, rfl, rfl⟩
    refine gop (y_assign (v := .slice B26 _ bc26) rfl) rfl rfl rfl ?_
    refine gops_nil ?_
    refine hN5 _ _ ?_
    refine gT [rowl _ _ _ _ _ _, fr, box b4 _, box b9 _] rfl ?_
    refine gfrom [(8, .slice B26 _ bc26)] ⟨rfl, trivial⟩ fun σ => ?_
    refine gret fun w1 hM => ?_
    refine ⟨_, res1 rfl (rt (v := .slice B26 _ bc26) rfl), ?_⟩
    rw [hn]
    exact ⟨B26, bc26, rfl, weak_take (T' := [_, fr]) rfl _ hM⟩
  · 
    replace hc19 := of_decide_eq_false hc19
    refine gskip ?_
    refine hN3 _ _ ?_
    refine gfrom [(2, .bool _), (3, .slice B _ bc), (4, .pointer _), (9, .pointer _)] ⟨rfl, rfl, rfl, rfl, trivial⟩ fun σ => ?_
    refine gseq fun N6 hN6 => ?_
    refine gseq fun N7 hN7 => ?_
    refine greg ?_
    refine gop (y_fieldAddr_box fa47_0 rfl) rfl rfl rfl ?_
    refine gop (y_load Tryd.isAgg3 rfl (cell_box 3 rfl rfl)) rfl rfl rfl ?_
    refine gop (y_lss rfl rfl) rfl rfl rfl ?_
    refine gops_nil ?_
    refine hN7 _ _ ?_
    refine gfrom [(2, .bool _), (3, .slice B _ bc), (4, .pointer _), (9, .pointer _), (29, .bool _)] ⟨rfl, rfl, rfl, rfl, rfl, trivial⟩ fun σ => ?_
    refine gcond (b := _) rfl (fun hc29 => ?_) (fun hc29 => ?_)
    · 
      replace hc29 := of_decide_eq_true hc29
      have hlf := hc29
      obtain ⟨-, -, htl, -⟩ := hsm hlf
      have hnode : l[m] = ⟨l[m].kind, l[m].number, 0, 0⟩ := leaf_node (htl ▸ hat) hm1
      refine gseq fun N8 hN8 => ?_
      refine greg ?_
      refine gop (y_move (v := .slice B _ bc) rfl) rfl rfl rfl ?_
      refine gop (y_loads (cs := [_, _, _, _]) Tryd.isAgg47 Tryd.sizeOf47 rfl rfl (cells_box 3 rfl)) rfl rfl rfl ?_
      refine gop_lit (vs := [.agg #[_, _, _, _]]) (cells := #[_, _, _, _]) Tryd.underlying22 Tryd.sizeOf47 Tryd.zeroValue47 rfl (by decide) (by decide) rfl rfl rfl rfl (fun b32 hb32 => ?_)
      refine gop_append 0 (f := pnCells) (l2 := [l[m]]) Tryd.underlying22 el47 wide_pn (v := .slice B _ bc) rfl rfl rfl rfl (fun h => by cases h) (by first | (unfold maxLen; show _ + 1 ≤ _; omega) | (simp [maxLen]; omega)) (by first | omega | (show (_ + 1) * _ ≤ _; omega) | (simp; omega)) (src_box 4 rfl rfl) rfl (fun v33 => ?_)
      refine gops_fact (fun w hM => own_form (hM.own 0 rfl)) ?_
      rintro ⟨A33, c33, rfl, hc33, hm33⟩
      refine gop (y_assign (v := .slice A33 _ c33) rfl) rfl rfl rfl ?_
      refine gops_nil ?_
      refine hN8 _ _ ?_
      refine gT [rowl _ _ _ _ _ _, fr, box b4 _, box b9 _, box b32 _] rfl ?_
      refine gfrom [(2, .bool _), (3, .slice A33 _ c33)] ⟨rfl, rfl, trivial⟩ fun σ => ?_
      refine gseq fun N9 hN9 => ?_
      refine gseq fun N10 hN10 => ?_
      refine greg ?_
      refine gop (y_move (v := .bool _) rfl) rfl rfl rfl ?_
      refine gops_nil ?_
      refine hN10 _ _ ?_
      refine gfrom [(3, .slice A33 _ c33), (34, .bool _)] ⟨rfl, rfl, trivial⟩ fun σ => ?_
      refine gcond (b := _) rfl (fun hc34 => ?_) (fun hc34 => ?_)
      · 
        have hn : nrm t x = .neg (.leaf l[m].kind l[m].number) := by rw [htl, nrm, if_pos hc34]
        refine greg ?_
        refine gop (y_move (v := .slice A33 _ c33) rfl) rfl rfl rfl ?_
        refine gop (y_move (v := .slice A33 _ c33) rfl) rfl rfl rfl ?_
        refine gop (y_len Tryd.underlying22 rfl) rfl rfl rfl ?_
        refine gop (y_sub rfl rfl ⟨by first | omega | (simp; done) | (simp; omega), by first | omega | (simp; done) | (simp; omega)⟩) rfl rfl rfl ?_
        refine gop (y_build (vs := [(0, _), (2, .int _ _)]) (cells := #[_, .int .i64 0, _, .int .i64 0]) rfl (bd47_0_2 _ _)) rfl rfl rfl ?_
        refine gop_lit (vs := [.agg #[_, _, _, _]]) (cells := #[_, _, _, _]) Tryd.underlying22 Tryd.sizeOf47 Tryd.zeroValue47 rfl (by decide) (by decide) rfl rfl rfl rfl (fun b40 hb40 => ?_)
        refine gop_append 0 (f := pnCells) (l2 := [(⟨5, 0, (((o ++ [l[m]]).length : Nat) : Int) - 1, 0⟩ : PN)]) Tryd.underlying22 el47 wide_pn (v := .slice A33 _ c33) rfl rfl rfl rfl (fun h => by cases h) (by first | (unfold maxLen; show _ + 1 ≤ _; omega) | (simp [maxLen]; omega)) (by first | omega | (show (_ + 1) * _ ≤ _; omega) | (simp; omega)) (src_box 5 rfl rfl) rfl (fun v41 => ?_)
        refine gops_fact (fun w hM => own_form (hM.own 0 rfl)) ?_
        rintro ⟨A41, c41, rfl, hc41, hm41⟩
        refine gop (y_assign (v := .slice A41 _ c41) rfl) rfl rfl rfl ?_
        refine gops_nil ?_
        refine hN9 _ _ ?_
        refine gT [rowl _ _ _ _ _ _, fr, box b4 _, box b9 _, box b32 _, box b40 _] rfl ?_
        refine gfrom [(3, .slice A41 _ c41)] ⟨rfl, trivial⟩ fun σ => ?_
        refine gseq fun N11 hN11 => ?_
        refine greg ?_
        refine gop (y_move (v := .slice A41 _ c41) rfl) rfl rfl rfl ?_
        refine gop (y_assign (v := .slice A41 _ c41) rfl) rfl rfl rfl ?_
        refine gops_nil ?_
        refine hN11 _ _ ?_
        refine gfrom [(8, .slice A41 _ c41)] ⟨rfl, trivial⟩ fun σ => ?_
        refine gret fun w1 hM => ?_
        refine ⟨_, res1 rfl (rt (v := .slice A41 _ c41) rfl), ?_⟩
        first
        | (have e1 : o ++ post (nrm t x) o.length = o ++ [l[m]] ++ [(⟨5, 0, (((o ++ [l[m]]).length : Nat) : Int) - 1, 0⟩ : PN)] := by
             rw [hn, post, post, ← hnode, List.append_assoc]
             simp only [Tr.size]
             congr 4
             simp
           rw [e1]
           exact ⟨A41, c41, rfl, weak_take (T' := [_, fr]) rfl _ hM⟩)
        | (have e1 : o ++ post (nrm t x) o.length = o ++ [l[m]] := by rw [hn, post, ← hnode]
           rw [e1]
           exact ⟨A33, c33, rfl, weak_take (T' := [_, fr]) rfl _ hM⟩)
      · 
        have hn : nrm t x = .leaf l[m].kind l[m].number := by rw [htl, nrm, if_neg (by simp [hc34])]
        refine gskip ?_
        refine hN9 _ _ ?_
        refine gfrom [(3, .slice A33 _ c33)] ⟨rfl, trivial⟩ fun σ => ?_
        refine gseq fun N12 hN12 => ?_
        refine greg ?_
        refine gop (y_move (v := .slice A33 _ c33) rfl) rfl rfl rfl ?_
        refine gop (y_assign (v := .slice A33 _ c33) rfl) rfl rfl rfl ?_
        refine gops_nil ?_
        refine hN12 _ _ ?_
        refine gfrom [(8, .slice A33 _ c33)] ⟨rfl, trivial⟩ fun σ => ?_
        refine gret fun w1 hM => ?_
        refine ⟨_, res1 rfl (rt (v := .slice A33 _ c33) rfl), ?_⟩
        first
        | (have e1 : o ++ post (nrm t x) o.length = o ++ [l[m]] ++ [(⟨5, 0, (((o ++ [l[m]]).length : Nat) : Int) - 1, 0⟩ : PN)] := by
             rw [hn, post, post, ← hnode, List.append_assoc]
             simp only [Tr.size]
             congr 4
             simp
           rw [e1]
           exact ⟨A41, c41, rfl, weak_take (T' := [_, fr]) rfl _ hM⟩)
        | (have e1 : o ++ post (nrm t x) o.length = o ++ [l[m]] := by rw [hn, post, ← hnode]
           rw [e1]
           exact ⟨A33, c33, rfl, weak_take (T' := [_, fr]) rfl _ hM⟩)
    · 
      replace hc29 := of_decide_eq_false hc29
      have hnk : ¬ l[m].kind < 5 := hc29
      obtain ⟨hi1, hk7, d, q, hdo, hdt, hdl, hds, hdq, h5, h67⟩ := tree_big hok hat hm1 hnk
      have hdp := depth_pos d
      have hdz := hdt.size_le
      obtain ⟨b, hbo, hbt, hbs, hbr, he⟩ := h67 (by omega)
      have hbp := b.pos
      have hda := nrm_ok d x hdo
      have hba := nrm_ok b x hbo
      have hsd : t.size = d.size + b.size + 1 := by rw [he]; rfl
      have hn : nrm t x = .bin (if x = true then 13 - l[m].kind else l[m].kind) (nrm d x) (nrm b x) := by rw [he, nrm]
      have hal1 := app_len o (nrm d x)
      have hal2 := app_len (o ++ post (nrm d x) o.length) (nrm b x)
      refine gskip ?_
      refine hN6 _ _ ?_
      refine gfrom [(2, .bool _), (3, .slice B _ bc), (4, .pointer _), (9, .pointer _)] ⟨rfl, rfl, rfl, rfl, trivial⟩ fun σ => ?_
      refine gseq fun N13 hN13 => ?_
      refine greg ?_
      refine gop (y_loads (cs := [_]) Tryd.isAgg24 Tryd.sizeOf24 rfl rfl (cells_box 2 rfl)) rfl rfl rfl ?_
      refine gop (y_fieldAddr_box fa47_2 rfl) rfl rfl rfl ?_
      refine gop (y_load Tryd.isAgg3 rfl (cell_box 3 rfl rfl)) rfl rfl rfl ?_
      refine gop (y_move (v := .bool _) rfl) rfl rfl rfl ?_
      refine gop (y_move (v := .slice B _ bc) rfl) rfl rfl rfl ?_
      refine gop_does1 0 (fun v r G => ∃ B' bc', v = .slice B' (o ++ post (nrm d (x)) (o).length).length bc' ∧ r = rowl pnCells w0.heap.size 47 4 (.slice B' (o ++ post (nrm d (x)) (o).length).length bc') (o ++ post (nrm d (x)) (o).length) ∧ G = []) (e_call (vs := [.agg #[_], .int _ _, .bool _, .slice B _ bc]) Tryd.func18 rfl (by kernel_rfl) rfl) rfl (fun w fr1 hfr hM => (ih d.size (by omega) d (x) _ q w _ _ (o) fr1 rfl hdl hdo hdt (by omega) hM).mono fun _ _ ⟨B', bc', h1, h2⟩ => ⟨_, _, [], h1, ⟨B', bc', rfl, rfl, rfl⟩, h2⟩) rfl rfl rfl ?_
      rintro _ _ _ ⟨B48, bc48, rfl, rfl, rfl⟩
      refine gop (y_assign (v := .slice B48 _ bc48) rfl) rfl rfl rfl ?_
      refine gops_nil ?_
      refine hN13 _ _ ?_
      refine gT [rowl _ _ _ _ _ _, fr, box b4 _, box b9 _] rfl ?_
      refine gfrom [(2, .bool _), (3, .slice B48 _ bc48), (4, .pointer _), (9, .pointer _)] ⟨rfl, rfl, rfl, rfl, trivial⟩ fun σ => ?_
      refine gseq fun N14 hN14 => ?_
      refine greg ?_
      refine gop (y_move (v := .slice B48 _ bc48) rfl) rfl rfl rfl ?_
      refine gop (y_len Tryd.underlying22 rfl) rfl rfl rfl ?_
      refine gop (y_sub rfl rfl ⟨by first | omega | (simp; done) | (simp; omega), by first | omega | (simp; done) | (simp; omega)⟩) rfl rfl rfl ?_
      refine gop (y_assign (v := .int _ _) rfl) rfl rfl rfl ?_
      refine gops_nil ?_
      refine hN14 _ _ ?_
      refine gfrom [(2, .bool _), (3, .slice B48 _ bc48), (4, .pointer _), (9, .pointer _), (10, .int _ _)] ⟨rfl, rfl, rfl, rfl, rfl, trivial⟩ fun σ => ?_
      refine gseq fun N15 hN15 => ?_
      refine greg ?_
      refine gop (y_loads (cs := [_]) Tryd.isAgg24 Tryd.sizeOf24 rfl rfl (cells_box 2 rfl)) rfl rfl rfl ?_
      refine gop (y_fieldAddr_box fa47_3 rfl) rfl rfl rfl ?_
      refine gop (y_load Tryd.isAgg3 rfl (cell_box 3 rfl rfl)) rfl rfl rfl ?_
      refine gop (y_move (v := .bool _) rfl) rfl rfl rfl ?_
      refine gop (y_move (v := .slice B48 _ bc48) rfl) rfl rfl rfl ?_
      refine gop_does1 0 (fun v r G => ∃ B' bc', v = .slice B' (o ++ post (nrm d x) o.length ++ post (nrm b (x)) (o ++ post (nrm d x) o.length).length).length bc' ∧ r = rowl pnCells w0.heap.size 47 4 (.slice B' (o ++ post (nrm d x) o.length ++ post (nrm b (x)) (o ++ post (nrm d x) o.length).length).length bc') (o ++ post (nrm d x) o.length ++ post (nrm b (x)) (o ++ post (nrm d x) o.length).length) ∧ G = []) (e_call (vs := [.agg #[_], .int _ _, .bool _, .slice B48 _ bc48]) Tryd.func18 rfl (by kernel_rfl) rfl) rfl (fun w fr1 hfr hM => (ih b.size (by omega) b (x) _ (m - 1) w _ _ (o ++ post (nrm d x) o.length) fr1 rfl hbr hbo hbt (by omega) hM).mono fun _ _ ⟨B', bc', h1, h2⟩ => ⟨_, _, [], h1, ⟨B', bc', rfl, rfl, rfl⟩, h2⟩) rfl rfl rfl ?_
      rintro _ _ _ ⟨B57, bc57, rfl, rfl, rfl⟩
      refine gop (y_assign (v := .slice B57 _ bc57) rfl) rfl rfl rfl ?_
      refine gops_nil ?_
      refine hN15 _ _ ?_
      refine gT [rowl _ _ _ _ _ _, fr, box b4 _, box b9 _] rfl ?_
      refine gfrom [(2, .bool _), (3, .slice B57 _ bc57), (9, .pointer _), (10, .int _ _)] ⟨rfl, rfl, rfl, rfl, trivial⟩ fun σ => ?_
      refine gseq fun N16 hN16 => ?_
      refine greg ?_
      refine gop (y_fieldAddr_box fa47_0 rfl) rfl rfl rfl ?_
      refine gop (y_load Tryd.isAgg3 rfl (cell_box 3 rfl rfl)) rfl rfl rfl ?_
      refine gop (y_assign (v := .int _ _) rfl) rfl rfl rfl ?_
      refine gops_nil ?_
      refine hN16 _ _ ?_
      refine gfrom [(2, .bool _), (3, .slice B57 _ bc57), (10, .int _ _), (11, .int _ _)] ⟨rfl, rfl, rfl, rfl, trivial⟩ fun σ => ?_
      refine gseq fun N17 hN17 => ?_
      refine gfrom [(2, .bool _), (3, .slice B57 _ bc57), (10, .int _ _), (11, .int _ _)] ⟨rfl, rfl, rfl, rfl, trivial⟩ fun σ => ?_
      refine gcut3 (Lf := [(3, .slice B57 _ bc57), (10, .int _ _)]) (G := Unit) (fun g => True) (fun g => [(11, .int .i64 (if x = true then 13 - l[m].kind else l[m].kind))]) (fun g => []) ⟨rfl, rfl, trivial⟩ ?_ ?_
      ·
        refine gseq fun N18 hN18 => ?_
        refine greg ?_
        refine gop (y_move (v := .bool _) rfl) rfl rfl rfl ?_
        refine gops_nil ?_
        refine hN18 _ _ ?_
        refine gfrom [(3, .slice B57 _ bc57), (10, .int _ _), (11, .int _ _), (60, .bool _)] ⟨rfl, rfl, rfl, rfl, trivial⟩ fun σ => ?_
        refine gcond (b := _) rfl (fun hc60 => ?_) (fun hc60 => ?_)
        · 
          refine greg ?_
          refine gop (y_move (v := .int _ _) rfl) rfl rfl rfl ?_
          refine gop (y_sub rfl rfl ⟨by omega, by omega⟩) rfl rfl rfl ?_
          refine gop (y_assign (v := .int _ _) rfl) rfl rfl rfl ?_
          refine gops_nil ?_
          refine gcut3_end (()) (trivial) ⟨(congrArg (Value.int .i64) (by first | (rw [if_pos hc60]; done) | (rw [if_neg (by simp [hc60])]; done))), trivial⟩ ⟨rfl, rfl, trivial⟩ ⟨_, rfl⟩
        · 
          refine gskip ?_
          refine gcut3_end (()) (trivial) ⟨(congrArg (Value.int .i64) (by first | (rw [if_pos hc60]; done) | (rw [if_neg (by simp [hc60])]; done))), trivial⟩ ⟨rfl, rfl, trivial⟩ ⟨_, rfl⟩
      ·
        intro g hcut σ
        refine hN17 _ _ ?_
        refine gseq fun N19 hN19 => ?_
        refine greg ?_
        refine gop (y_move (v := .slice B57 _ bc57) rfl) rfl rfl rfl ?_
        refine gop (y_move (v := .int _ _) rfl) rfl rfl rfl ?_
        refine gop (y_move (v := .int _ _) rfl) rfl rfl rfl ?_
        refine gop (y_move (v := .slice B57 _ bc57) rfl) rfl rfl rfl ?_
        refine gop (y_len Tryd.underlying22 rfl) rfl rfl rfl ?_
        refine gop (y_sub rfl rfl ⟨by first | omega | (simp; done) | (simp; omega), by first | omega | (simp; done) | (simp; omega)⟩) rfl rfl rfl ?_
        refine gop (y_build (vs := [(0, .int _ _), (2, .int _ _), (3, .int _ _)]) (cells := #[_, .int .i64 0, _, _]) rfl (bd47_0_2_3 _ _ _)) rfl rfl rfl ?_
        refine gop_lit (vs := [.agg #[_, _, _, _]]) (cells := #[_, _, _, _]) Tryd.underlying22 Tryd.sizeOf47 Tryd.zeroValue47 rfl (by decide) (by decide) rfl rfl rfl rfl (fun b70 hb70 => ?_)
        refine gop_append 0 (f := pnCells) (l2 := [(⟨if x = true then 13 - l[m].kind else l[m].kind, 0, (((o ++ post (nrm d x) o.length).length : Nat) : Int) - 1, ((((o ++ post (nrm d x) o.length) ++ post (nrm b x) (o ++ post (nrm d x) o.length).length).length : Nat) : Int) - 1⟩ : PN)]) Tryd.underlying22 el47 wide_pn (v := .slice B57 _ bc57) rfl rfl rfl rfl (fun h => by cases h) (by first | (unfold maxLen; show _ + 1 ≤ _; omega) | (simp [maxLen]; omega)) (by first | omega | (show (_ + 1) * _ ≤ _; omega) | (simp; omega)) (src_box 4 rfl rfl) rfl (fun v71 => ?_)
        refine gops_fact (fun w hM => own_form (hM.own 0 rfl)) ?_
        rintro ⟨A71, c71, rfl, hc71, hm71⟩
        refine gop (y_assign (v := .slice A71 _ c71) rfl) rfl rfl rfl ?_
        refine gops_nil ?_
        refine hN19 _ _ ?_
        refine gT [rowl _ _ _ _ _ _, fr, box b4 _, box b9 _, box b70 _] rfl ?_
        refine gfrom [(8, .slice A71 _ c71)] ⟨rfl, trivial⟩ fun σ => ?_
        refine gret fun w1 hM => ?_
        refine ⟨_, res1 rfl (rt (v := .slice A71 _ c71) rfl), ?_⟩
        rw [hn, ← post_bin_app, ← hal1, ← hal2]
        exact ⟨A71, c71, rfl, weak_take (T' := [_, fr]) rfl _ hM⟩
end Go.Proofs.YtllblbkbglifjaaDoor
namespace Go.Cf
open Go.RowKit
structure HunkC where
  pl : Hunk
  oA : Option Addr
  oc : Nat
  nA : Option Addr
  nc : Nat
abbrev hunkCells (h : HunkC) : List Value := [.int .i64 h.pl.at_, .slice h.oA h.pl.old.length h.oc, .slice h.nA h.pl.new.length h.nc]
structure SB (A : Option Addr) (n c : Nat) (b : Nat) : Prop where
  len : n ≤ c
  max : c ≤ maxLen
  nil : A = none → c = 0
  bytes : n * b ≤ reachBytes
theorem SB.lit {a : Addr} {b : Nat} (n : Nat) (h : n ≤ 1000) (hb : b ≤ 1000) : SB (some a) n n b := by
  refine ⟨Nat.le_refl _, by unfold maxLen; omega, (fun h => by cases h), ?_⟩
  have : n * b ≤ 1000 * 1000 := Nat.mul_le_mul h hb
  unfold reachBytes; omega
structure HunkR (w : World) (lo : Nat) (h : HunkC) : Prop where
  old : Rdl w lo 1 strCells h.oA h.pl.old
  new : Rdl w lo 1 strCells h.nA h.pl.new
  ob : SB h.oA h.pl.old.length h.oc 16
  nb : SB h.nA h.pl.new.length h.nc 16
  at_ : In64 h.pl.at_
def Lasts (lo : Nat) (R : World → Prop) : Prop := ∀ w w', R w → (∀ p : Addr, lo ≤ p.block → p.block < w.heap.size → w'.cell? p = w.cell? p) → R w'
theorem Lasts.base {lo : Nat} {R : World → Prop} (h : Lasts lo R) {w0 w : World} {T : List Reg} (hR : R w0) (hM : Mem w0 T w) : R w := h w0 w hR fun _ _ hp => hM.low.cell hp
theorem Lasts.below {lo : Nat} {R : World → Prop} (h : Lasts lo R) {w0 w : World} (hR : R w0) (hb : Below w0.heap.size w0 w) : R w := h w0 w hR fun _ _ hp => hb.cell hp
theorem Lasts.seal_ {lo : Nat} {R : World → Prop} (h : Lasts lo R) {w0 w ws : World} {T : List Reg} (i : Nat) {lo1 : Nat} (hi : T[i]? = some (seal_ lo1 ws)) (hR : R ws) (hlo : lo1 ≤ lo) (hM : Mem w0 T w) : R w :=
  h ws w hR fun p h1 h2 => by
    have h3 : ∀ k, lo1 ≤ k → k < ws.heap.size → w.heap[k]? = ws.heap[k]? := hM.ok _ (List.mem_of_getElem? hi)
    exact World.cell?_of_block (h3 p.block (Nat.le_trans hlo h1) h2)
theorem HunkR.mono {w : World} {lo lo' : Nat} {h : HunkC} (hR : HunkR w lo h) (hl : lo' ≤ lo) : HunkR w lo' h := ⟨hR.old.mono hl, hR.new.mono hl, hR.ob, hR.nb, hR.at_⟩
structure PatR (w : World) (lo : Nat) (A : Option Addr) (c : Nat) (hs : List HunkC) : Prop where
  rd : Rdl w lo 3 hunkCells A hs
  each : ∀ h ∈ hs, HunkR w lo h
  sb : SB A hs.length c 56
theorem PatR.mono {w : World} {lo lo' : Nat} {A : Option Addr} {c : Nat} {hs : List HunkC} (hR : PatR w lo A c hs) (hl : lo' ≤ lo) : PatR w lo' A c hs := ⟨hR.rd.mono hl, fun h hh => (hR.each h hh).mono hl, hR.sb⟩
abbrev pls (hs : List HunkC) : List Hunk := hs.map HunkC.pl
structure PatC where
  A : Option Addr
  c : Nat
  hs : List HunkC
abbrev patCells (p : PatC) : List Value := [.slice p.A p.hs.length p.c]
abbrev PatC.pl (p : PatC) : List Hunk := pls p.hs
structure PatsR (w : World) (lo : Nat) (A : Option Addr) (ps : List PatC) : Prop where
  rd : Rdl w lo 1 patCells A ps
  each : ∀ p ∈ ps, PatR w lo p.A p.c p.hs
theorem PatsR.mono {w : World} {lo lo' : Nat} {A : Option Addr} {ps : List PatC} (hR : PatsR w lo A ps) (hl : lo' ≤ lo) : PatsR w lo' A ps := ⟨hR.rd.mono hl, fun h hh => (hR.each h hh).mono hl⟩
end Go.Cf
namespace Go.Cf
open Go.RowKit
theorem y_indexByte {P : Program} {w0 : World} {T : List Reg} {ρ : Env} {dst : Option Nat} {x y : Operand} {ty : TypeId} {pos : String} {af : Array Edge} {gd : Option (Nat × Bool)} {ts : Array TypeId} {f : FuncId} {fn : Func}
    (hf : P.funcs[f]? = some fn) (hname : (fn.name == "runtime.NumGoroutine") = false) (hb : fn.body.isNone = true) (hn : Extern.findNext fn = none) (he : Extern.find fn = some Extern.BytealgIndexByte.indexByte) {s : ByteArray} {c : Int}
    (hx : ev ρ x = .string s) (hy : ev ρ y = .int .u8 c) :
    Yield P w0 T ρ ⟨dst, .call { callee := .value (.func f), args := #[x, y], argTypes := ts }, ty, pos, af, gd⟩ (.int .i64 (firstIdx s c.toNat.toUInt8)) := fun w _ => by
  have h := run_callFunc_extern hf hname hb hn he #[.string s, .int .u8 c] w
  rw [run_indexByte_string] at h
  simp only [Result.andThen] at h
  have hef : ev ρ (.func f) = .func (.func f) #[] #[] := rfl
  simp [execOp, resolve, invoke, hx, hy, hef, Deferred.ofValue]
  simpa using h
theorem y_field {P : Program} {w0 : World} {T : List Reg} {ρ : Env} {dst : Option Nat} {x : Operand} {ty t : TypeId} {pos : String} {af : Array Edge} {gd : Option (Nat × Bool)} {i : Nat} {cs : Array Value} {v : Value}
    (hx : ev ρ x = .agg cs) (hf : ∀ w, (Instr.field t (.agg cs) i).run P w = .ok v w) : Yield P w0 T ρ ⟨dst, .field t x i, ty, pos, af, gd⟩ v := fun w _ => by
  simp [execOp, hx, hf]
end Go.Cf
namespace Go.Cf
open Go.RowKit
theorem byteAt_lt (s : ByteArray) (j : Nat) : byteAt s j < 256 := (s.data.toList[j]?.getD 0).toNat_lt
theorem sep_idx (s : ByteArray) (j : Nat) : firstIdx ⟨#[32, 40, 41]⟩ (((byteAt s j : Nat) : Int).toNat.toUInt8) < 0 ↔ woB s j = true := by
  have h1 := firstIdx_nonneg ⟨#[32, 40, 41]⟩ (((byteAt s j : Nat) : Int).toNat.toUInt8)
  obtain ⟨c, hc⟩ : ∃ c, ((byteAt s j : Nat) : Int).toNat.toUInt8 = c := ⟨_, rfl⟩
  have hb : c.toNat = byteAt s j := by
    rw [← hc, Int.toNat_natCast]
    show (UInt8.ofNat (byteAt s j)).toNat = _
    rw [UInt8.toNat_ofNat']
    have := byteAt_lt s j
    omega
  rw [hc] at h1 ⊢
  have e : (([32, 40, 41] : List UInt8).any (· == c)) = !woB s j := by
    have q : ∀ d : UInt8, (d == c) = decide (d.toNat = byteAt s j) := fun d => by
      rw [← hb]
      by_cases h : d = c
      · subst h; simp
      · rw [beq_eq_false_iff_ne.2 h]
        exact (decide_eq_false (fun h2 => h (UInt8.toNat_inj.1 h2))).symm
    simp only [List.any_cons, List.any_nil, q, woB]
    have e1 : (32 : UInt8).toNat = 32 := rfl
    have e2 : (40 : UInt8).toNat = 40 := rfl
    have e3 : (41 : UInt8).toNat = 41 := rfl
    rw [e1, e2, e3]
    by_cases a1 : byteAt s j = 32 <;> by_cases a2 : byteAt s j = 40 <;> by_cases a3 : byteAt s j = 41 <;> simp_all <;> omega
  have h2 : decide (0 ≤ firstIdx ⟨#[32, 40, 41]⟩ c) = !woB s j := h1.trans e
  constructor
  · intro h
    have : decide (0 ≤ firstIdx ⟨#[32, 40, 41]⟩ c) = false := decide_eq_false (by omega)
    rw [this] at h2
    simpa using h2.symm
  · intro h
    rw [h] at h2
    have := of_decide_eq_false h2
    omega
structure RS (s : ByteArray) (at_ : Nat) (ts : List Tk) : Prop where
  ts : ts = tks s at_
  sk : skipW s at_ = at_
  le : at_ ≤ s.size
section
variable {s : ByteArray} {a : Nat} {ts : List Tk}
theorem RS.hd (h : RS s a ts) : s.extract a (nextW s a) = hd ts := by
  rw [h.ts]
  by_cases h1 : a < s.size
  · rw [tks_cons (by rw [h.sk]; exact h1), h.sk]; rfl
  · have : a = s.size := by have := h.le; omega
    rw [tks_nil (by rw [h.sk]; exact h1), this, next_end]
    show s.extract s.size s.size = ⟨#[]⟩
    apply ByteArray.ext
    simp
theorem RS.pos (h : RS s a ts) : pos s.size ts = a := by
  rw [h.ts]
  by_cases h1 : a < s.size
  · rw [tks_cons (by rw [h.sk]; exact h1), h.sk]; rfl
  · have : a = s.size := by have := h.le; omega
    rw [tks_nil (by rw [h.sk]; exact h1), this]; rfl
theorem RS.next (h : RS s a ts) : RS s (skipW s (nextW s a)) ts.tail := by
  refine ⟨?_, skip_skip _ _, skip_le (next_le h.le)⟩
  rw [h.ts, tks_skip]
  by_cases h1 : a < s.size
  · rw [tks_cons (by rw [h.sk]; exact h1), h.sk]; rfl
  · have : a = s.size := by have := h.le; omega
    rw [tks_nil (by rw [h.sk]; exact h1), this, next_end]
    rw [tks_nil (by have := skip_ge s s.size; omega)]; rfl
theorem RS.nil (h : RS s a ts) : ts = [] ↔ ¬ a < s.size := by
  rw [h.ts]
  by_cases h1 : a < s.size
  · rw [tks_cons (by rw [h.sk]; exact h1)]; simp [h1]
  · rw [tks_nil (by rw [h.sk]; exact h1)]; simp [h1]
theorem RS.len (h : RS s a ts) : ts.length ≤ s.size := by rw [h.ts]; exact Nat.le_trans (tks_len s _ a rfl) (by omega)
end
theorem RS.start (s : ByteArray) : RS s (skipW s 0) (tks s 0) := ⟨(tks_skip s 0).symm, skip_skip _ _, skip_le (Nat.zero_le _)⟩
theorem strEq_dec (a b : ByteArray) : (a.toList == b.toList) = decide (a = b) := by
  by_cases h : a = b
  · subst h; simp
  · rw [decide_eq_false h, beq_eq_false_iff_ne]
    intro h2
    apply h
    rw [ByteArray.toList_eq, ByteArray.toList_eq] at h2
    apply ByteArray.ext
    exact Array.toList_inj.1 h2
def POK (s : ByteArray) (R : Res) (o : List PN) (code : Int) (x : Int) (b : Bool) (o' : List PN) (a' : Nat) (code' : Int) : Prop := match R with
  | .bad c p => b = false ∧ a' = p ∧ code' = c ∧ o'.length ≤ 1000
  | .ok t ts => b = true ∧ x = ((o.length + t.size : Nat) : Int) - 1 ∧ o' = o ++ post t o.length ∧ RS s a' ts ∧ code' = code
theorem pok_yes {s : ByteArray} {R : Res} {o o' : List PN} {code code' x : Int} {a' : Nat} {b : Bool} (h : POK s R o code x b o' a' code') (hb : b = true) : ∃ t ts, R = .ok t ts ∧ x = ((o.length + t.size : Nat) : Int) - 1 ∧ o' = o ++ post t o.length ∧ RS s a' ts ∧ code' = code := by
  cases R with
  | bad c p => rw [POK, hb] at h; exact absurd h.1 (by decide)
  | ok t ts => exact ⟨t, ts, rfl, h.2⟩
theorem pok_no {s : ByteArray} {R : Res} {o o' : List PN} {code code' x : Int} {a' : Nat} {b : Bool} (h : POK s R o code x b o' a' code') (hb : b = false) : R = .bad code' a' ∧ o'.length ≤ 1000 := by
  cases R with
  | bad c p => obtain ⟨_, h1, h2, h3⟩ := h; rw [h1, h2]; exact ⟨rfl, h3⟩
  | ok t ts => rw [POK, hb] at h; exact absurd h.1 (by decide)
theorem pok_bad {s : ByteArray} {o o' : List PN} {code x : Int} {R : Res} {c : Int} {a' : Nat} (h : R = .bad c a') (h2 : o'.length ≤ 1000) : POK s R o code x false o' a' c := by
  rw [h]; exact ⟨rfl, rfl, rfl, h2⟩
theorem pok_ok {s : ByteArray} {o o' : List PN} {code x : Int} {R : Res} {t : Tr} {ts : List Tk} {a' : Nat} (h : R = .ok t ts) (h1 : x = ((o.length + t.size : Nat) : Int) - 1) (h2 : o' = o ++ post t o.length) (h3 : RS s a' ts) : POK s R o code x true o' a' code := by
  rw [h]; exact ⟨rfl, h1, h2, h3, rfl⟩
end Go.Cf
namespace Go.Cf
theorem pok_bad2 {s : ByteArray} {o o' : List PN} {code x : Int} {R : Res} {c : Int} {a' : Nat} {b : Bool} (hb : b = false) (h : R = .bad c a') (h2 : o'.length ≤ 1000) : POK s R o code x b o' a' c := by
  subst hb; exact pok_bad h h2
theorem pok_ok2 {s : ByteArray} {o o' : List PN} {code x : Int} {R : Res} {t : Tr} {ts : List Tk} {a' : Nat} {b : Bool} (hb : b = true) (h : R = .ok t ts) (h1 : x = ((o.length + t.size : Nat) : Int) - 1) (h2 : o' = o ++ post t o.length) (h3 : RS s a' ts) : POK s R o code x b o' a' code := by
  subst hb; exact pok_ok h h1 h2 h3
end Go.Cf
namespace Go.Cf
def LI (s : ByteArray) (lv n : Nat) (R : Res) (o : List PN) (code : Int) (m : Nat) (x : Int) (b : Bool) (o1 : List PN) (a1 : Nat) (code1 : Int) : Prop :=
  m ≤ n ∧ ((b = false ∧ R = .bad code1 a1 ∧ o1.length ≤ 1000) ∨ (b = true ∧ ∃ t us, x = ((o.length + t.size : Nat) : Int) - 1 ∧ o1 = o ++ post t o.length ∧ RS s a1 us ∧ code = code1 ∧ R = rd s.size m lv (some t) us ∧ 3 * us.length + 1 ≤ m ∧ o.length + t.size + us.length ≤ 800))
theorem li_start {s : ByteArray} {lv n : Nat} {R : Res} {o o1 : List PN} {code code1 x : Int} {b : Bool} {a1 : Nat} {ts : List Tk} (hR : R = bindR (rd s.size n (lv + 1) none ts) fun t us => rd s.size n lv (some t) us) (hlv : lv < 2) (hfu : 3 * ts.length + 3 ≤ n + 1 + lv) (hol : o.length + ts.length ≤ 800)
    (hp : POK s (rd s.size n (lv + 1) none ts) o code x b o1 a1 code1) : LI s lv n R o code n x b o1 a1 code1 := by
  refine ⟨Nat.le_refl _, ?_⟩
  cases hb : b with
  | false =>
    obtain ⟨h1, h2⟩ := pok_no hp hb
    exact .inl ⟨rfl, by rw [hR, h1]; rfl, h2⟩
  | true =>
    obtain ⟨t, us, h1, h2, h3, h4, h5⟩ := pok_yes hp hb
    obtain ⟨_, h6⟩ := rd_ok s.size n _ none _ _ _ (fun _ h => by cases h) h1
    have := t.pos
    simp only [Option.map, Option.getD] at h6
    exact .inr ⟨rfl, t, us, h2, h3, h4, h5.symm, by rw [hR, h1]; rfl, by omega, by omega⟩
theorem li_bad {s : ByteArray} {lv n m : Nat} {R : Res} {o o1 : List PN} {code code1 x : Int} {b : Bool} {a1 : Nat} (h : LI s lv n R o code m x b o1 a1 code1) (hb : b = false) : R = .bad code1 a1 ∧ o1.length ≤ 1000 := by
  rcases h.2 with h | h
  · exact h.2
  · rw [h.1] at hb; cases hb
theorem li_ok {s : ByteArray} {lv n m : Nat} {R : Res} {o o1 : List PN} {code code1 x : Int} {b : Bool} {a1 : Nat} (h : LI s lv n R o code m x b o1 a1 code1) (hb : b = true) : ∃ t us, x = ((o.length + t.size : Nat) : Int) - 1 ∧ o1 = o ++ post t o.length ∧ RS s a1 us ∧ code = code1 ∧ R = rd s.size m lv (some t) us ∧ 3 * us.length + 1 ≤ m ∧ o.length + t.size + us.length ≤ 800 := by
  rcases h.2 with h | h
  · rw [h.1] at hb; cases hb
  · exact h.2
end Go.Cf
namespace Go.Proofs.YtllblbkbglifjaaDoor
open Go.RowKit Go.Cf
set_option maxRecDepth 10000
theorem fa60_3 (a : Addr) (w : World) : (Instr.fieldAt 60 (.pointer (some a)) 3).run Tryd.prog w = .ok (.pointer (some (a.add 3))) w := by kernel_rfl
theorem fa60_2 (a : Addr) (w : World) : (Instr.fieldAt 60 (.pointer (some a)) 2).run Tryd.prog w = .ok (.pointer (some (a.add 2))) w := by kernel_rfl
theorem fa60_1 (a : Addr) (w : World) : (Instr.fieldAt 60 (.pointer (some a)) 1).run Tryd.prog w = .ok (.pointer (some (a.add 1))) w := by kernel_rfl
set_option maxHeartbeats 1000000 in
theorem slIndexByte_any (w : World) (s : ByteArray) (c : Int) : Calls Tryd.prog 47 #[.string s, .int .u8 c] w fun e w' => e = .returned (.int .i64 (firstIdx s c.toNat.toUInt8)) ∧ Below w.heap.size w w' := by
  refine gcalls Tryd.func47 rfl Tryd.ntmps47 (Nat.le_of_ble_eq_true rfl) ?_
  refine gfrom [(0, .string _), (1, .int _ _)] ⟨rfl, rfl, trivial⟩ fun σ => ?_
  refine gseq fun N1 hN1 => ?_
  refine greg ?_
  refine gop (y_assign (v := .int _ _) rfl) rfl rfl rfl ?_
  refine gops_nil ?_
  refine hN1 _ _ ?_
  refine gfrom [(0, .string _), (1, .int _ _)] ⟨rfl, rfl, trivial⟩ fun σ => ?_
  refine gseq fun N2 hN2 => ?_
  refine greg ?_
  refine gop (y_move (v := .string _) rfl) rfl rfl rfl ?_
  refine gop (y_move (v := .int _ _) rfl) rfl rfl rfl ?_
  refine gop (y_indexByte Tryd.func51 (by kernel_rfl) (by kernel_rfl) (by kernel_rfl) (by kernel_rfl) rfl rfl) rfl rfl rfl ?_
  refine gop (y_assign (v := .int _ _) rfl) rfl rfl rfl ?_
  refine gops_nil ?_
  refine hN2 _ _ ?_
  refine gfrom [(4, .int _ _)] ⟨rfl, trivial⟩ fun σ => ?_
  refine gret fun w1 hM => ?_
  refine ⟨_, res1 rfl (rt (v := .int _ _) rfl), ?_⟩
  exact ⟨rfl, hM.low⟩
set_option maxHeartbeats 1000000 in
theorem indexByte_any (w : World) (s : ByteArray) (c : Int) : Calls Tryd.prog 43 #[.string s, .int .u8 c] w fun e w' => e = .returned (.int .i64 (firstIdx s c.toNat.toUInt8)) ∧ Below w.heap.size w w' := by
  refine gcalls Tryd.func43 rfl Tryd.ntmps43 (Nat.le_of_ble_eq_true rfl) ?_
  refine gfrom [(0, .string _), (1, .int _ _)] ⟨rfl, rfl, trivial⟩ fun σ => ?_
  refine gseq fun N1 hN1 => ?_
  refine greg ?_
  refine gop (y_assign (v := .int _ _) rfl) rfl rfl rfl ?_
  refine gops_nil ?_
  refine hN1 _ _ ?_
  refine gfrom [(0, .string _), (1, .int _ _)] ⟨rfl, rfl, trivial⟩ fun σ => ?_
  refine gseq fun N2 hN2 => ?_
  refine greg ?_
  refine gop (y_move (v := .string _) rfl) rfl rfl rfl ?_
  refine gop (y_move (v := .int _ _) rfl) rfl rfl rfl ?_
  refine gop_pure (e_call (vs := [.string _, .int _ _]) Tryd.func47 rfl (by kernel_rfl) rfl) (fun w hM => slIndexByte_any w _ _) rfl rfl rfl ?_
  refine gop (y_assign (v := .int _ _) rfl) rfl rfl rfl ?_
  refine gops_nil ?_
  refine hN2 _ _ ?_
  refine gfrom [(4, .int _ _)] ⟨rfl, trivial⟩ fun σ => ?_
  refine gret fun w1 hM => ?_
  refine ⟨_, res1 rfl (rt (v := .int _ _) rfl), ?_⟩
  exact ⟨rfl, hM.low⟩
set_option maxHeartbeats 8000000 in
theorem rdScan_any (w0 w : World) (rg n bc : Nat) (B : Option Addr) (s : ByteArray) (code : Int) (fr : Reg) (hs : s.size ≤ 200) (a x : Int) (nx : Nat) (hx : x = (nx : Int)) (hnx : nx ≤ s.size) (hM0 : Mem w0 [box rg (.cells #[.slice B n bc, .string s, .int .i64 (a), .int .i64 (x), .int .i64 code] 60), fr] w) :
    Calls Tryd.prog 30 #[.pointer (some ⟨rg, 0, none⟩)] w fun e w' => e = .returned (.tuple #[]) ∧ Mem w0 [box rg (.cells #[.slice B n bc, .string s, .int .i64 ((skipW s nx : Nat)), .int .i64 ((nextW s (skipW s nx) : Nat)), .int .i64 code] 60), fr] w' := by
  subst hx
  refine gcallsT Tryd.func30 rfl Tryd.ntmps30 (Nat.le_of_ble_eq_true rfl) hM0 ?_
  refine gfrom [(0, .pointer (some ⟨rg, 0, none⟩))] ⟨rfl, trivial⟩ fun σ => ?_
  refine gseq fun N1 hN1 => ?_
  refine greg ?_
  refine gop (y_move (v := .pointer (some ⟨rg, 0, none⟩)) rfl) rfl rfl rfl ?_
  refine gop (y_move (v := .pointer (some ⟨rg, 0, none⟩)) rfl) rfl rfl rfl ?_
  refine gop (y_nilCheck rfl) rfl rfl rfl ?_
  refine gop (y_fieldAddr_box fa60_3 rfl) rfl rfl rfl ?_
  refine gop (y_load Tryd.isAgg3 rfl (cell_box 0 rfl rfl)) rfl rfl rfl ?_
  refine gop (y_nilCheck rfl) rfl rfl rfl ?_
  refine gop (y_fieldAddr_box fa60_2 rfl) rfl rfl rfl ?_
  refine gop_store 0 (v := .int _ _) (cs' := #[_, _, _, _, _]) rfl rfl Tryd.sizeOf3 rfl rfl rfl rfl (Nat.le_of_ble_eq_true rfl) rfl rfl ?_
  refine gops_nil ?_
  refine hN1 _ _ ?_
  refine gT [box rg _, fr] rfl ?_
  refine gfrom [(0, .pointer (some ⟨rg, 0, none⟩))] ⟨rfl, trivial⟩ fun σ => ?_
  refine gseq fun N2 hN2 => ?_
  refine gblock ?_
  refine gfrom2 [] [(0, .pointer (some ⟨rg, 0, none⟩))] trivial ⟨rfl, trivial⟩ fun σ => ?_
  refine gloop2 (G := Nat) (fun j => j ≤ s.size ∧ skipW s j = skipW s nx) (fun j => s.size - j) (fun j => []) (fun j => [(0, box rg (.cells #[.slice B n bc, .string s, .int .i64 ((j : Nat)), .int .i64 ((nx : Nat)), .int .i64 code] 60))]) (nx) ?h0 trivial ⟨rfl, trivial⟩ rfl ?round
  case h0 => exact ⟨hnx, rfl⟩
  case round =>
    intro j hφ σ
    obtain ⟨hj, hjs⟩ := hφ
    refine gT [box rg _, fr] rfl ?_
    refine gseq fun N3 hN3 => ?_
    refine gseq fun N4 hN4 => ?_
    refine greg_q (by kernel_rfl) (by kernel_rfl) ?_
    refine gq (y_move (v := .pointer (some ⟨rg, 0, none⟩)) rfl) rfl rfl rfl ?_
    refine gq (y_nilCheck rfl) rfl rfl rfl ?_
    refine gq (y_fieldAddr_box fa60_2 rfl) rfl rfl rfl ?_
    refine gq (y_load Tryd.isAgg3 rfl (cell_box 0 rfl rfl)) rfl rfl rfl ?_
    refine gq (y_move (v := .pointer (some ⟨rg, 0, none⟩)) rfl) rfl rfl rfl ?_
    refine gq (y_nilCheck rfl) rfl rfl rfl ?_
    refine gq (y_fieldAddr_box fa60_1 rfl) rfl rfl rfl ?_
    refine gq (y_load Tryd.isAgg9 rfl (cell_box 0 rfl rfl)) rfl rfl rfl ?_
    refine gq (y_lens Tryd.underlying9 rfl) rfl rfl rfl ?_
    refine gq (y_lss rfl rfl) rfl rfl rfl ?_
    refine gq (y_move (v := .bool _) rfl) rfl rfl rfl ?_
    refine gq_if (want := true) rfl rfl rfl rfl rfl rfl (fun hg19 => ?_) (fun hg19 => ?_)
    · 
      have hg19d := of_decide_eq_true hg19
      refine gq (y_bare (y_move (v := .pointer (some ⟨rg, 0, none⟩)) rfl)) rfl rfl rfl ?_
      refine gq_on rfl rfl rfl rfl hg19 ?_
      refine gq (y_bare (y_nilCheck rfl)) rfl rfl rfl ?_
      refine gq_on rfl rfl rfl rfl hg19 ?_
      refine gq (y_bare (y_fieldAddr_box fa60_1 rfl)) rfl rfl rfl ?_
      refine gq_on rfl rfl rfl rfl hg19 ?_
      refine gq (y_bare (y_load Tryd.isAgg9 rfl (cell_box 0 rfl rfl))) rfl rfl rfl ?_
      refine gq_on rfl rfl rfl rfl hg19 ?_
      refine gq (y_bare (y_move (v := .pointer (some ⟨rg, 0, none⟩)) rfl)) rfl rfl rfl ?_
      refine gq_on rfl rfl rfl rfl hg19 ?_
      refine gq (y_bare (y_nilCheck rfl)) rfl rfl rfl ?_
      refine gq_on rfl rfl rfl rfl hg19 ?_
      refine gq (y_bare (y_fieldAddr_box fa60_2 rfl)) rfl rfl rfl ?_
      refine gq_on rfl rfl rfl rfl hg19 ?_
      refine gq (y_bare (y_load Tryd.isAgg3 rfl (cell_box 0 rfl rfl))) rfl rfl rfl ?_
      refine gq_on rfl rfl rfl rfl hg19 ?_
      refine gq (y_bare (y_stridx (m := j) Tryd.underlying9 rfl rfl (by omega) (by omega) (by omega))) rfl rfl rfl ?_
      refine gq_on rfl rfl rfl rfl hg19 ?_
      refine gq (y_bare (y_eql rfl rfl)) rfl rfl rfl ?_
      refine gq (y_pick_t (v := .bool _) rfl hg19 rfl) rfl rfl rfl ?_
      refine gqs_nil ?_
      refine hN4 _ _ ?_
      refine gfrom [(0, .pointer (some ⟨rg, 0, none⟩)), (30, .bool _)] ⟨rfl, rfl, trivial⟩ fun σ => ?_
      refine gcond (b := _) rfl (fun hc30 => ?_) (fun hc30 => ?_)
      · 
        replace hc30 := of_decide_eq_true hc30
        have hj1 : j < s.size := by omega
        have hb : spB s j = true := decide_eq_true (by omega)
        refine gskip ?_
        refine hN3 _ _ ?_
        refine gfrom [(0, .pointer (some ⟨rg, 0, none⟩))] ⟨rfl, trivial⟩ fun σ => ?_
        refine gblock ?_
        refine greg ?_
        refine gop (y_move (v := .pointer (some ⟨rg, 0, none⟩)) rfl) rfl rfl rfl ?_
        refine gop (y_nilCheck rfl) rfl rfl rfl ?_
        refine gop (y_fieldAddr_box fa60_2 rfl) rfl rfl rfl ?_
        refine gop (y_load Tryd.isAgg3 rfl (cell_box 0 rfl rfl)) rfl rfl rfl ?_
        refine gop (y_add rfl rfl ⟨by omega, by omega⟩) rfl rfl rfl ?_
        refine gop (y_nilCheck rfl) rfl rfl rfl ?_
        refine gop (y_fieldAddr_box fa60_2 rfl) rfl rfl rfl ?_
        refine gop_store 0 (v := .int _ _) (cs' := #[_, _, _, _, _]) rfl rfl Tryd.sizeOf3 rfl rfl rfl rfl (Nat.le_of_ble_eq_true rfl) rfl rfl ?_
        refine gops_nil ?_
        refine gnext2 (j + 1) (by omega) (⟨by show j + 1 ≤ _; omega, by rw [← hjs]; exact (run_step hj1 hb).symm⟩) trivial ⟨rfl, trivial⟩ ⟨_, rfl⟩
      · 
        replace hc30 := of_decide_eq_false hc30
        have hat : skipW s nx = j := by rw [← hjs]; exact run_stop (fun h => decide_eq_false (by omega))
        refine gexit ?_
        refine hN2 _ _ ?_
        refine gfrom [(0, .pointer (some ⟨rg, 0, none⟩))] ⟨rfl, trivial⟩ fun σ => ?_
        refine gseq fun N5 hN5 => ?_
        refine greg ?_
        refine gop (y_move (v := .pointer (some ⟨rg, 0, none⟩)) rfl) rfl rfl rfl ?_
        refine gop (y_move (v := .pointer (some ⟨rg, 0, none⟩)) rfl) rfl rfl rfl ?_
        refine gop (y_nilCheck rfl) rfl rfl rfl ?_
        refine gop (y_fieldAddr_box fa60_2 rfl) rfl rfl rfl ?_
        refine gop (y_load Tryd.isAgg3 rfl (cell_box 0 rfl rfl)) rfl rfl rfl ?_
        refine gop (y_nilCheck rfl) rfl rfl rfl ?_
        refine gop (y_fieldAddr_box fa60_3 rfl) rfl rfl rfl ?_
        refine gop_store 0 (v := .int _ _) (cs' := #[_, _, _, _, _]) rfl rfl Tryd.sizeOf3 rfl rfl rfl rfl (Nat.le_of_ble_eq_true rfl) rfl rfl ?_
        refine gops_nil ?_
        refine hN5 _ _ ?_
        refine gT [box rg _, fr] rfl ?_
        refine gfrom [(0, .pointer (some ⟨rg, 0, none⟩))] ⟨rfl, trivial⟩ fun σ => ?_
        refine gseq fun N6 hN6 => ?_
        refine gblock ?_
        refine gfrom2 [] [(0, .pointer (some ⟨rg, 0, none⟩))] trivial ⟨rfl, trivial⟩ fun σ => ?_
        refine gloop2 (G := Nat) (fun k => k ≤ s.size ∧ endW s k = endW s j) (fun k => s.size - k) (fun k => []) (fun k => [(0, box rg (.cells #[.slice B n bc, .string s, .int .i64 ((j : Nat)), .int .i64 ((k : Nat)), .int .i64 code] 60))]) (j) ?h0 trivial ⟨rfl, trivial⟩ rfl ?round
        case h0 => exact ⟨hj, rfl⟩
        case round =>
          intro k hφ σ
          obtain ⟨hk, hks⟩ := hφ
          refine gT [box rg _, fr] rfl ?_
          refine gseq fun N7 hN7 => ?_
          refine gseq fun N8 hN8 => ?_
          refine greg_q (by kernel_rfl) (by kernel_rfl) ?_
          refine gq (y_move (v := .pointer (some ⟨rg, 0, none⟩)) rfl) rfl rfl rfl ?_
          refine gq (y_nilCheck rfl) rfl rfl rfl ?_
          refine gq (y_fieldAddr_box fa60_3 rfl) rfl rfl rfl ?_
          refine gq (y_load Tryd.isAgg3 rfl (cell_box 0 rfl rfl)) rfl rfl rfl ?_
          refine gq (y_move (v := .pointer (some ⟨rg, 0, none⟩)) rfl) rfl rfl rfl ?_
          refine gq (y_nilCheck rfl) rfl rfl rfl ?_
          refine gq (y_fieldAddr_box fa60_1 rfl) rfl rfl rfl ?_
          refine gq (y_load Tryd.isAgg9 rfl (cell_box 0 rfl rfl)) rfl rfl rfl ?_
          refine gq (y_lens Tryd.underlying9 rfl) rfl rfl rfl ?_
          refine gq (y_lss rfl rfl) rfl rfl rfl ?_
          refine gq (y_move (v := .bool _) rfl) rfl rfl rfl ?_
          refine gq_if (want := true) rfl rfl rfl rfl rfl rfl (fun hg55 => ?_) (fun hg55 => ?_)
          · 
            have hg55d := of_decide_eq_true hg55
            refine gq (y_bare (y_move (v := .pointer (some ⟨rg, 0, none⟩)) rfl)) rfl rfl rfl ?_
            refine gq_on rfl rfl rfl rfl hg55 ?_
            refine gq (y_bare (y_nilCheck rfl)) rfl rfl rfl ?_
            refine gq_on rfl rfl rfl rfl hg55 ?_
            refine gq (y_bare (y_fieldAddr_box fa60_1 rfl)) rfl rfl rfl ?_
            refine gq_on rfl rfl rfl rfl hg55 ?_
            refine gq (y_bare (y_load Tryd.isAgg9 rfl (cell_box 0 rfl rfl))) rfl rfl rfl ?_
            refine gq_on rfl rfl rfl rfl hg55 ?_
            refine gq (y_bare (y_move (v := .pointer (some ⟨rg, 0, none⟩)) rfl)) rfl rfl rfl ?_
            refine gq_on rfl rfl rfl rfl hg55 ?_
            refine gq (y_bare (y_nilCheck rfl)) rfl rfl rfl ?_
            refine gq_on rfl rfl rfl rfl hg55 ?_
            refine gq (y_bare (y_fieldAddr_box fa60_3 rfl)) rfl rfl rfl ?_
            refine gq_on rfl rfl rfl rfl hg55 ?_
            refine gq (y_bare (y_load Tryd.isAgg3 rfl (cell_box 0 rfl rfl))) rfl rfl rfl ?_
            refine gq_on rfl rfl rfl rfl hg55 ?_
            refine gq (y_bare (y_stridx (m := k) Tryd.underlying9 rfl rfl (by omega) (by omega) (by omega))) rfl rfl rfl ?_
            refine gq_on rfl rfl rfl rfl hg55 ?_
            refine gq_pure (e_call (vs := [_, .int _ _]) Tryd.func43 rfl (by kernel_rfl) rfl) (fun w hM => indexByte_any w _ _) rfl rfl rfl ?_
            refine gq_on rfl rfl rfl rfl hg55 ?_
            refine gq (y_bare (y_lss rfl rfl)) rfl rfl rfl ?_
            refine gq (y_pick_t (v := .bool _) rfl hg55 rfl) rfl rfl rfl ?_
            refine gqs_nil ?_
            refine hN8 _ _ ?_
            refine gfrom [(0, .pointer (some ⟨rg, 0, none⟩)), (67, .bool _)] ⟨rfl, rfl, trivial⟩ fun σ => ?_
            refine gcond (b := _) rfl (fun hc67 => ?_) (fun hc67 => ?_)
            · 
              replace hc67 := of_decide_eq_true hc67
              have hk1 : k < s.size := by omega
              have hw : woB s k = true := (sep_idx s k).1 (by omega)
              refine gskip ?_
              refine hN7 _ _ ?_
              refine gfrom [(0, .pointer (some ⟨rg, 0, none⟩))] ⟨rfl, trivial⟩ fun σ => ?_
              refine gblock ?_
              refine greg ?_
              refine gop (y_move (v := .pointer (some ⟨rg, 0, none⟩)) rfl) rfl rfl rfl ?_
              refine gop (y_nilCheck rfl) rfl rfl rfl ?_
              refine gop (y_fieldAddr_box fa60_3 rfl) rfl rfl rfl ?_
              refine gop (y_load Tryd.isAgg3 rfl (cell_box 0 rfl rfl)) rfl rfl rfl ?_
              refine gop (y_add rfl rfl ⟨by omega, by omega⟩) rfl rfl rfl ?_
              refine gop (y_nilCheck rfl) rfl rfl rfl ?_
              refine gop (y_fieldAddr_box fa60_3 rfl) rfl rfl rfl ?_
              refine gop_store 0 (v := .int _ _) (cs' := #[_, _, _, _, _]) rfl rfl Tryd.sizeOf3 rfl rfl rfl rfl (Nat.le_of_ble_eq_true rfl) rfl rfl ?_
              refine gops_nil ?_
              refine gnext2 (k + 1) (by omega) (⟨by show k + 1 ≤ _; omega, by rw [← hks]; exact (run_step hk1 hw).symm⟩) trivial ⟨rfl, trivial⟩ ⟨_, rfl⟩
            · 
              replace hc67 := of_decide_eq_false hc67
              have hend : endW s j = k := by
                rw [← hks]
                refine run_stop (fun h => ?_)
                by_cases hw : woB s k = true
                · exact absurd ((sep_idx s k).2 hw) (by omega)
                · simpa using hw
              refine gexit ?_
              refine hN6 _ _ ?_
              refine gfrom [(0, .pointer (some ⟨rg, 0, none⟩))] ⟨rfl, trivial⟩ fun σ => ?_
              refine gseq fun N9 hN9 => ?_
              refine greg_q (by kernel_rfl) (by kernel_rfl) ?_
              refine gq (y_move (v := .pointer (some ⟨rg, 0, none⟩)) rfl) rfl rfl rfl ?_
              refine gq (y_nilCheck rfl) rfl rfl rfl ?_
              refine gq (y_fieldAddr_box fa60_3 rfl) rfl rfl rfl ?_
              refine gq (y_load Tryd.isAgg3 rfl (cell_box 0 rfl rfl)) rfl rfl rfl ?_
              refine gq (y_move (v := .pointer (some ⟨rg, 0, none⟩)) rfl) rfl rfl rfl ?_
              refine gq (y_nilCheck rfl) rfl rfl rfl ?_
              refine gq (y_fieldAddr_box fa60_2 rfl) rfl rfl rfl ?_
              refine gq (y_load Tryd.isAgg3 rfl (cell_box 0 rfl rfl)) rfl rfl rfl ?_
              refine gq (y_eql rfl rfl) rfl rfl rfl ?_
              refine gq (y_move (v := .bool _) rfl) rfl rfl rfl ?_
              refine gq_if (want := true) rfl rfl rfl rfl rfl rfl (fun hg84 => ?_) (fun hg84 => ?_)
              · 
                have hg84d := of_decide_eq_true hg84
                refine gq (y_bare (y_move (v := .pointer (some ⟨rg, 0, none⟩)) rfl)) rfl rfl rfl ?_
                refine gq_on rfl rfl rfl rfl hg84 ?_
                refine gq (y_bare (y_nilCheck rfl)) rfl rfl rfl ?_
                refine gq_on rfl rfl rfl rfl hg84 ?_
                refine gq (y_bare (y_fieldAddr_box fa60_2 rfl)) rfl rfl rfl ?_
                refine gq_on rfl rfl rfl rfl hg84 ?_
                refine gq (y_bare (y_load Tryd.isAgg3 rfl (cell_box 0 rfl rfl))) rfl rfl rfl ?_
                refine gq_on rfl rfl rfl rfl hg84 ?_
                refine gq (y_bare (y_move (v := .pointer (some ⟨rg, 0, none⟩)) rfl)) rfl rfl rfl ?_
                refine gq_on rfl rfl rfl rfl hg84 ?_
                refine gq (y_bare (y_nilCheck rfl)) rfl rfl rfl ?_
                refine gq_on rfl rfl rfl rfl hg84 ?_
                refine gq (y_bare (y_fieldAddr_box fa60_1 rfl)) rfl rfl rfl ?_
                refine gq_on rfl rfl rfl rfl hg84 ?_
                refine gq (y_bare (y_load Tryd.isAgg9 rfl (cell_box 0 rfl rfl))) rfl rfl rfl ?_
                refine gq_on rfl rfl rfl rfl hg84 ?_
                refine gq (y_bare (y_lens Tryd.underlying9 rfl)) rfl rfl rfl ?_
                refine gq_on rfl rfl rfl rfl hg84 ?_
                refine gq (y_bare (y_lss rfl rfl)) rfl rfl rfl ?_
                refine gq (y_pick_t (v := .bool _) rfl hg84 rfl) rfl rfl rfl ?_
                refine gqs_nil ?_
                refine hN9 _ _ ?_
                refine gfrom [(0, .pointer (some ⟨rg, 0, none⟩)), (95, .bool _)] ⟨rfl, rfl, trivial⟩ fun σ => ?_
                refine gcond (b := _) rfl (fun hc95 => ?_) (fun hc95 => ?_)
                · 
                  replace hc95 := of_decide_eq_true hc95
                  have hN : nextW s j = k + 1 := by rw [nextW, hend, if_pos (by omega)]; omega
                  refine greg ?_
                  refine gop (y_move (v := .pointer (some ⟨rg, 0, none⟩)) rfl) rfl rfl rfl ?_
                  refine gop (y_nilCheck rfl) rfl rfl rfl ?_
                  refine gop (y_fieldAddr_box fa60_3 rfl) rfl rfl rfl ?_
                  refine gop (y_load Tryd.isAgg3 rfl (cell_box 0 rfl rfl)) rfl rfl rfl ?_
                  refine gop (y_add rfl rfl ⟨by omega, by omega⟩) rfl rfl rfl ?_
                  refine gop (y_nilCheck rfl) rfl rfl rfl ?_
                  refine gop (y_fieldAddr_box fa60_3 rfl) rfl rfl rfl ?_
                  refine gop_store 0 (v := .int _ _) (cs' := #[_, _, _, _, _]) rfl rfl Tryd.sizeOf3 rfl rfl rfl rfl (Nat.le_of_ble_eq_true rfl) rfl rfl ?_
                  refine gops_nil ?_
                  intro w1 hM
                  refine ⟨_, res0 rfl, ?_⟩
                  rw [hat, hN]
                  exact ⟨rfl, weak_take (T' := [_, fr]) rfl _ hM⟩
                · 
                  replace hc95 := of_decide_eq_false hc95
                  have hN : nextW s j = k := by rw [nextW, hend, if_neg (by omega)]
                  refine gskip ?_
                  intro w1 hM
                  refine ⟨_, res0 rfl, ?_⟩
                  rw [hat, hN]
                  exact ⟨rfl, weak_take (T' := [_, fr]) rfl _ hM⟩
              · 
                have hg84d := of_decide_eq_false hg84
                refine gq_off rfl rfl rfl rfl hg84 rfl rfl ?_
                refine gq_off rfl rfl rfl rfl hg84 rfl rfl ?_
                refine gq_off rfl rfl rfl rfl hg84 rfl rfl ?_
                refine gq_off rfl rfl rfl rfl hg84 rfl rfl ?_
                refine gq_off rfl rfl rfl rfl hg84 rfl rfl ?_
                refine gq_off rfl rfl rfl rfl hg84 rfl rfl ?_
                refine gq_off rfl rfl rfl rfl hg84 rfl rfl ?_
                refine gq_off rfl rfl rfl rfl hg84 rfl rfl ?_
                refine gq_off rfl rfl rfl rfl hg84 rfl rfl ?_
                refine gq (y_pick_f (v := .bool _) rfl hg84 rfl) rfl rfl rfl ?_
                refine gqs_nil ?_
                refine hN9 _ _ ?_
                refine gfrom [(0, .pointer (some ⟨rg, 0, none⟩)), (95, .bool _)] ⟨rfl, rfl, trivial⟩ fun σ => ?_
                refine gcond (b := _) rfl (fun hc95 => ?_) (fun hc95 => ?_)
                · 
                  cases hc95
                · 
                  have hN : nextW s j = k := by rw [nextW, hend, if_neg (by omega)]
                  refine gskip ?_
                  intro w1 hM
                  refine ⟨_, res0 rfl, ?_⟩
                  rw [hat, hN]
                  exact ⟨rfl, weak_take (T' := [_, fr]) rfl _ hM⟩
          · 
            have hg55d := of_decide_eq_false hg55
            refine gq_off rfl rfl rfl rfl hg55 rfl rfl ?_
            refine gq_off rfl rfl rfl rfl hg55 rfl rfl ?_
            refine gq_off rfl rfl rfl rfl hg55 rfl rfl ?_
            refine gq_off rfl rfl rfl rfl hg55 rfl rfl ?_
            refine gq_off rfl rfl rfl rfl hg55 rfl rfl ?_
            refine gq_off rfl rfl rfl rfl hg55 rfl rfl ?_
            refine gq_off rfl rfl rfl rfl hg55 rfl rfl ?_
            refine gq_off rfl rfl rfl rfl hg55 rfl rfl ?_
            refine gq_off rfl rfl rfl rfl hg55 rfl rfl ?_
            refine gq_off rfl rfl rfl rfl hg55 rfl rfl ?_
            refine gq (y_pick_f (v := .bool _) rfl hg55 rfl) rfl rfl rfl ?_
            refine gqs_nil ?_
            refine hN8 _ _ ?_
            refine gfrom [(0, .pointer (some ⟨rg, 0, none⟩)), (67, .bool _)] ⟨rfl, rfl, trivial⟩ fun σ => ?_
            refine gcond (b := _) rfl (fun hc67 => ?_) (fun hc67 => ?_)
            · 
              cases hc67
            · 
              have hend : endW s j = k := by
                rw [← hks]
                refine run_stop (fun h => ?_)
                by_cases hw : woB s k = true
                · exact absurd ((sep_idx s k).2 hw) (by omega)
                · simpa using hw
              refine gexit ?_
              refine hN6 _ _ ?_
              refine gfrom [(0, .pointer (some ⟨rg, 0, none⟩))] ⟨rfl, trivial⟩ fun σ => ?_
              refine gseq fun N10 hN10 => ?_
              refine greg_q (by kernel_rfl) (by kernel_rfl) ?_
              refine gq (y_move (v := .pointer (some ⟨rg, 0, none⟩)) rfl) rfl rfl rfl ?_
              refine gq (y_nilCheck rfl) rfl rfl rfl ?_
              refine gq (y_fieldAddr_box fa60_3 rfl) rfl rfl rfl ?_
              refine gq (y_load Tryd.isAgg3 rfl (cell_box 0 rfl rfl)) rfl rfl rfl ?_
              refine gq (y_move (v := .pointer (some ⟨rg, 0, none⟩)) rfl) rfl rfl rfl ?_
              refine gq (y_nilCheck rfl) rfl rfl rfl ?_
              refine gq (y_fieldAddr_box fa60_2 rfl) rfl rfl rfl ?_
              refine gq (y_load Tryd.isAgg3 rfl (cell_box 0 rfl rfl)) rfl rfl rfl ?_
              refine gq (y_eql rfl rfl) rfl rfl rfl ?_
              refine gq (y_move (v := .bool _) rfl) rfl rfl rfl ?_
              refine gq_if (want := true) rfl rfl rfl rfl rfl rfl (fun hg84 => ?_) (fun hg84 => ?_)
              · 
                have hg84d := of_decide_eq_true hg84
                refine gq (y_bare (y_move (v := .pointer (some ⟨rg, 0, none⟩)) rfl)) rfl rfl rfl ?_
                refine gq_on rfl rfl rfl rfl hg84 ?_
                refine gq (y_bare (y_nilCheck rfl)) rfl rfl rfl ?_
                refine gq_on rfl rfl rfl rfl hg84 ?_
                refine gq (y_bare (y_fieldAddr_box fa60_2 rfl)) rfl rfl rfl ?_
                refine gq_on rfl rfl rfl rfl hg84 ?_
                refine gq (y_bare (y_load Tryd.isAgg3 rfl (cell_box 0 rfl rfl))) rfl rfl rfl ?_
                refine gq_on rfl rfl rfl rfl hg84 ?_
                refine gq (y_bare (y_move (v := .pointer (some ⟨rg, 0, none⟩)) rfl)) rfl rfl rfl ?_
                refine gq_on rfl rfl rfl rfl hg84 ?_
                refine gq (y_bare (y_nilCheck rfl)) rfl rfl rfl ?_
                refine gq_on rfl rfl rfl rfl hg84 ?_
                refine gq (y_bare (y_fieldAddr_box fa60_1 rfl)) rfl rfl rfl ?_
                refine gq_on rfl rfl rfl rfl hg84 ?_
                refine gq (y_bare (y_load Tryd.isAgg9 rfl (cell_box 0 rfl rfl))) rfl rfl rfl ?_
                refine gq_on rfl rfl rfl rfl hg84 ?_
                refine gq (y_bare (y_lens Tryd.underlying9 rfl)) rfl rfl rfl ?_
                refine gq_on rfl rfl rfl rfl hg84 ?_
                refine gq (y_bare (y_lss rfl rfl)) rfl rfl rfl ?_
                refine gq (y_pick_t (v := .bool _) rfl hg84 rfl) rfl rfl rfl ?_
                refine gqs_nil ?_
                refine hN10 _ _ ?_
                refine gfrom [(0, .pointer (some ⟨rg, 0, none⟩)), (95, .bool _)] ⟨rfl, rfl, trivial⟩ fun σ => ?_
                refine gcond (b := _) rfl (fun hc95 => ?_) (fun hc95 => ?_)
                · 
                  replace hc95 := of_decide_eq_true hc95
                  have hN : nextW s j = k + 1 := by rw [nextW, hend, if_pos (by omega)]; omega
                  refine greg ?_
                  refine gop (y_move (v := .pointer (some ⟨rg, 0, none⟩)) rfl) rfl rfl rfl ?_
                  refine gop (y_nilCheck rfl) rfl rfl rfl ?_
                  refine gop (y_fieldAddr_box fa60_3 rfl) rfl rfl rfl ?_
                  refine gop (y_load Tryd.isAgg3 rfl (cell_box 0 rfl rfl)) rfl rfl rfl ?_
                  refine gop (y_add rfl rfl ⟨by omega, by omega⟩) rfl rfl rfl ?_
                  refine gop (y_nilCheck rfl) rfl rfl rfl ?_
                  refine gop (y_fieldAddr_box fa60_3 rfl) rfl rfl rfl ?_
                  refine gop_store 0 (v := .int _ _) (cs' := #[_, _, _, _, _]) rfl rfl Tryd.sizeOf3 rfl rfl rfl rfl (Nat.le_of_ble_eq_true rfl) rfl rfl ?_
                  refine gops_nil ?_
                  intro w1 hM
                  refine ⟨_, res0 rfl, ?_⟩
                  rw [hat, hN]
                  exact ⟨rfl, weak_take (T' := [_, fr]) rfl _ hM⟩
                · 
                  replace hc95 := of_decide_eq_false hc95
                  have hN : nextW s j = k := by rw [nextW, hend, if_neg (by omega)]
                  refine gskip ?_
                  intro w1 hM
                  refine ⟨_, res0 rfl, ?_⟩
                  rw [hat, hN]
                  exact ⟨rfl, weak_take (T' := [_, fr]) rfl _ hM⟩
              · 
                have hg84d := of_decide_eq_false hg84
                refine gq_off rfl rfl rfl rfl hg84 rfl rfl ?_
                refine gq_off rfl rfl rfl rfl hg84 rfl rfl ?_
                refine gq_off rfl rfl rfl rfl hg84 rfl rfl ?_
                refine gq_off rfl rfl rfl rfl hg84 rfl rfl ?_
                refine gq_off rfl rfl rfl rfl hg84 rfl rfl ?_
                refine gq_off rfl rfl rfl rfl hg84 rfl rfl ?_
                refine gq_off rfl rfl rfl rfl hg84 rfl rfl ?_
                refine gq_off rfl rfl rfl rfl hg84 rfl rfl ?_
                refine gq_off rfl rfl rfl rfl hg84 rfl rfl ?_
                refine gq (y_pick_f (v := .bool _) rfl hg84 rfl) rfl rfl rfl ?_
                refine gqs_nil ?_
                refine hN10 _ _ ?_
                refine gfrom [(0, .pointer (some ⟨rg, 0, none⟩)), (95, .bool _)] ⟨rfl, rfl, trivial⟩ fun σ => ?_
                refine gcond (b := _) rfl (fun hc95 => ?_) (fun hc95 => ?_)
                · 
                  cases hc95
                · 
                  have hN : nextW s j = k := by rw [nextW, hend, if_neg (by omega)]
                  refine gskip ?_
                  intro w1 hM
                  refine ⟨_, res0 rfl, ?_⟩
                  rw [hat, hN]
                  exact ⟨rfl, weak_take (T' := [_, fr]) rfl _ hM⟩
    · 
      have hg19d := of_decide_eq_false hg19
      refine gq_off rfl rfl rfl rfl hg19 rfl rfl ?_
      refine gq_off rfl rfl rfl rfl hg19 rfl rfl ?_
      refine gq_off rfl rfl rfl rfl hg19 rfl rfl ?_
      refine gq_off rfl rfl rfl rfl hg19 rfl rfl ?_
      refine gq_off rfl rfl rfl rfl hg19 rfl rfl ?_
      refine gq_off rfl rfl rfl rfl hg19 rfl rfl ?_
      refine gq_off rfl rfl rfl rfl hg19 rfl rfl ?_
      refine gq_off rfl rfl rfl rfl hg19 rfl rfl ?_
      refine gq_off rfl rfl rfl rfl hg19 rfl rfl ?_
      refine gq (y_pick_f (v := .bool _) rfl hg19 rfl) rfl rfl rfl ?_
      refine gqs_nil ?_
      refine hN4 _ _ ?_
      refine gfrom [(0, .pointer (some ⟨rg, 0, none⟩)), (30, .bool _)] ⟨rfl, rfl, trivial⟩ fun σ => ?_
      refine gcond (b := _) rfl (fun hc30 => ?_) (fun hc30 => ?_)
      · 
        cases hc30
      · 
        have hat : skipW s nx = j := by rw [← hjs]; exact run_stop (fun h => decide_eq_false (by omega))
        refine gexit ?_
        refine hN2 _ _ ?_
        refine gfrom [(0, .pointer (some ⟨rg, 0, none⟩))] ⟨rfl, trivial⟩ fun σ => ?_
        refine gseq fun N11 hN11 => ?_
        refine greg ?_
        refine gop (y_move (v := .pointer (some ⟨rg, 0, none⟩)) rfl) rfl rfl rfl ?_
        refine gop (y_move (v := .pointer (some ⟨rg, 0, none⟩)) rfl) rfl rfl rfl ?_
        refine gop (y_nilCheck rfl) rfl rfl rfl ?_
        refine gop (y_fieldAddr_box fa60_2 rfl) rfl rfl rfl ?_
        refine gop (y_load Tryd.isAgg3 rfl (cell_box 0 rfl rfl)) rfl rfl rfl ?_
        refine gop (y_nilCheck rfl) rfl rfl rfl ?_
        refine gop (y_fieldAddr_box fa60_3 rfl) rfl rfl rfl ?_
        refine gop_store 0 (v := .int _ _) (cs' := #[_, _, _, _, _]) rfl rfl Tryd.sizeOf3 rfl rfl rfl rfl (Nat.le_of_ble_eq_true rfl) rfl rfl ?_
        refine gops_nil ?_
        refine hN11 _ _ ?_
        refine gT [box rg _, fr] rfl ?_
        refine gfrom [(0, .pointer (some ⟨rg, 0, none⟩))] ⟨rfl, trivial⟩ fun σ => ?_
        refine gseq fun N12 hN12 => ?_
        refine gblock ?_
        refine gfrom2 [] [(0, .pointer (some ⟨rg, 0, none⟩))] trivial ⟨rfl, trivial⟩ fun σ => ?_
        refine gloop2 (G := Nat) (fun k => k ≤ s.size ∧ endW s k = endW s j) (fun k => s.size - k) (fun k => []) (fun k => [(0, box rg (.cells #[.slice B n bc, .string s, .int .i64 ((j : Nat)), .int .i64 ((k : Nat)), .int .i64 code] 60))]) (j) ?h0 trivial ⟨rfl, trivial⟩ rfl ?round
        case h0 => exact ⟨hj, rfl⟩
        case round =>
          intro k hφ σ
          obtain ⟨hk, hks⟩ := hφ
          refine gT [box rg _, fr] rfl ?_
          refine gseq fun N13 hN13 => ?_
          refine gseq fun N14 hN14 => ?_
          refine greg_q (by kernel_rfl) (by kernel_rfl) ?_
          refine gq (y_move (v := .pointer (some ⟨rg, 0, none⟩)) rfl) rfl rfl rfl ?_
          refine gq (y_nilCheck rfl) rfl rfl rfl ?_
          refine gq (y_fieldAddr_box fa60_3 rfl) rfl rfl rfl ?_
          refine gq (y_load Tryd.isAgg3 rfl (cell_box 0 rfl rfl)) rfl rfl rfl ?_
          refine gq (y_move (v := .pointer (some ⟨rg, 0, none⟩)) rfl) rfl rfl rfl ?_
          refine gq (y_nilCheck rfl) rfl rfl rfl ?_
          refine gq (y_fieldAddr_box fa60_1 rfl) rfl rfl rfl ?_
          refine gq (y_load Tryd.isAgg9 rfl (cell_box 0 rfl rfl)) rfl rfl rfl ?_
          refine gq (y_lens Tryd.underlying9 rfl) rfl rfl rfl ?_
          refine gq (y_lss rfl rfl) rfl rfl rfl ?_
          refine gq (y_move (v := .bool _) rfl) rfl rfl rfl ?_
          refine gq_if (want := true) rfl rfl rfl rfl rfl rfl (fun hg55 => ?_) (fun hg55 => ?_)
          · 
            have hg55d := of_decide_eq_true hg55
            refine gq (y_bare (y_move (v := .pointer (some ⟨rg, 0, none⟩)) rfl)) rfl rfl rfl ?_
            refine gq_on rfl rfl rfl rfl hg55 ?_
            refine gq (y_bare (y_nilCheck rfl)) rfl rfl rfl ?_
            refine gq_on rfl rfl rfl rfl hg55 ?_
            refine gq (y_bare (y_fieldAddr_box fa60_1 rfl)) rfl rfl rfl ?_
            refine gq_on rfl rfl rfl rfl hg55 ?_
            refine gq (y_bare (y_load Tryd.isAgg9 rfl (cell_box 0 rfl rfl))) rfl rfl rfl ?_
            refine gq_on rfl rfl rfl rfl hg55 ?_
            refine gq (y_bare (y_move (v := .pointer (some ⟨rg, 0, none⟩)) rfl)) rfl rfl rfl ?_
            refine gq_on rfl rfl rfl rfl hg55 ?_
            refine gq (y_bare (y_nilCheck rfl)) rfl rfl rfl ?_
            refine gq_on rfl rfl rfl rfl hg55 ?_
            refine gq (y_bare (y_fieldAddr_box fa60_3 rfl)) rfl rfl rfl ?_
            refine gq_on rfl rfl rfl rfl hg55 ?_
            refine gq (y_bare (y_load Tryd.isAgg3 rfl (cell_box 0 rfl rfl))) rfl rfl rfl ?_
            refine gq_on rfl rfl rfl rfl hg55 ?_
            refine gq (y_bare (y_stridx (m := k) Tryd.underlying9 rfl rfl (by omega) (by omega) (by omega))) rfl rfl rfl ?_
            refine gq_on rfl rfl rfl rfl hg55 ?_
            refine gq_pure (e_call (vs := [_, .int _ _]) Tryd.func43 rfl (by kernel_rfl) rfl) (fun w hM => indexByte_any w _ _) rfl rfl rfl ?_
            refine gq_on rfl rfl rfl rfl hg55 ?_
            refine gq (y_bare (y_lss rfl rfl)) rfl rfl rfl ?_
            refine gq (y_pick_t (v := .bool _) rfl hg55 rfl) rfl rfl rfl ?_
            refine gqs_nil ?_
            refine hN14 _ _ ?_
            refine gfrom [(0, .pointer (some ⟨rg, 0, none⟩)), (67, .bool _)] ⟨rfl, rfl, trivial⟩ fun σ => ?_
            refine gcond (b := _) rfl (fun hc67 => ?_) (fun hc67 => ?_)
            · 
              replace hc67 := of_decide_eq_true hc67
              have hk1 : k < s.size := by omega
              have hw : woB s k = true := (sep_idx s k).1 (by omega)
              refine gskip ?_
              refine hN13 _ _ ?_
              refine gfrom [(0, .pointer (some ⟨rg, 0, none⟩))] ⟨rfl, trivial⟩ fun σ => ?_
              refine gblock ?_
              refine greg ?_
              refine gop (y_move (v := .pointer (some ⟨rg, 0, none⟩)) rfl) rfl rfl rfl ?_
              refine gop (y_nilCheck rfl) rfl rfl rfl ?_
              refine gop (y_fieldAddr_box fa60_3 rfl) rfl rfl rfl ?_
              refine gop (y_load Tryd.isAgg3 rfl (cell_box 0 rfl rfl)) rfl rfl rfl ?_
              refine gop (y_add rfl rfl ⟨by omega, by omega⟩) rfl rfl rfl ?_
              refine gop (y_nilCheck rfl) rfl rfl rfl ?_
              refine gop (y_fieldAddr_box fa60_3 rfl) rfl rfl rfl ?_
              refine gop_store 0 (v := .int _ _) (cs' := #[_, _, _, _, _]) rfl rfl Tryd.sizeOf3 rfl rfl rfl rfl (Nat.le_of_ble_eq_true rfl) rfl rfl ?_
              refine gops_nil ?_
              refine gnext2 (k + 1) (by omega) (⟨by show k + 1 ≤ _; omega, by rw [← hks]; exact (run_step hk1 hw).symm⟩) trivial ⟨rfl, trivial⟩ ⟨_, rfl⟩
            · 
              replace hc67 := of_decide_eq_false hc67
              have hend : endW s j = k := by
                rw [← hks]
                refine run_stop (fun h => ?_)
                by_cases hw : woB s k = true
                · exact absurd ((sep_idx s k).2 hw) (by omega)
                · simpa using hw
              refine gexit ?_
              refine hN12 _ _ ?_
              refine gfrom [(0, .pointer (some ⟨rg, 0, none⟩))] ⟨rfl, trivial⟩ fun σ => ?_
              refine gseq fun N15 hN15 => ?_
              refine greg_q (by kernel_rfl) (by kernel_rfl) ?_
              refine gq (y_move (v := .pointer (some ⟨rg, 0, none⟩)) rfl) rfl rfl rfl ?_
              refine gq (y_nilCheck rfl) rfl rfl rfl ?_
              refine gq (y_fieldAddr_box fa60_3 rfl) rfl rfl rfl ?_
              refine gq (y_load Tryd.isAgg3 rfl (cell_box 0 rfl rfl)) rfl rfl rfl ?_
              refine gq (y_move (v := .pointer (some ⟨rg, 0, none⟩)) rfl) rfl rfl rfl ?_
              refine gq (y_nilCheck rfl) rfl rfl rfl ?_
              refine gq (y_fieldAddr_box fa60_2 rfl) rfl rfl rfl ?_
              refine gq (y_load Tryd.isAgg3 rfl (cell_box 0 rfl rfl)) rfl rfl rfl ?_
              refine gq (y_eql rfl rfl) rfl rfl rfl ?_
              refine gq (y_move (v := .bool _) rfl) rfl rfl rfl ?_
              refine gq_if (want := true) rfl rfl rfl rfl rfl rfl (fun hg84 => ?_) (fun hg84 => ?_)
              · 
                have hg84d := of_decide_eq_true hg84
                refine gq (y_bare (y_move (v := .pointer (some ⟨rg, 0, none⟩)) rfl)) rfl rfl rfl ?_
                refine gq_on rfl rfl rfl rfl hg84 ?_
                refine gq (y_bare (y_nilCheck rfl)) rfl rfl rfl ?_
                refine gq_on rfl rfl rfl rfl hg84 ?_
                refine gq (y_bare (y_fieldAddr_box fa60_2 rfl)) rfl rfl rfl ?_
                refine gq_on rfl rfl rfl rfl hg84 ?_
                refine gq (y_bare (y_load Tryd.isAgg3 rfl (cell_box 0 rfl rfl))) rfl rfl rfl ?_
                refine gq_on rfl rfl rfl rfl hg84 ?_
                refine gq (y_bare (y_move (v := .pointer (some ⟨rg, 0, none⟩)) rfl)) rfl rfl rfl ?_
                refine gq_on rfl rfl rfl rfl hg84 ?_
                refine gq (y_bare (y_nilCheck rfl)) rfl rfl rfl ?_
                refine gq_on rfl rfl rfl rfl hg84 ?_
                refine gq (y_bare (y_fieldAddr_box fa60_1 rfl)) rfl rfl rfl ?_
                refine gq_on rfl rfl rfl rfl hg84 ?_
                refine gq (y_bare (y_load Tryd.isAgg9 rfl (cell_box 0 rfl rfl))) rfl rfl rfl ?_
                refine gq_on rfl rfl rfl rfl hg84 ?_
                refine gq (y_bare (y_lens Tryd.underlying9 rfl)) rfl rfl rfl ?_
                refine gq_on rfl rfl rfl rfl hg84 ?_
                refine gq (y_bare (y_lss rfl rfl)) rfl rfl rfl ?_
                refine gq (y_pick_t (v := .bool _) rfl hg84 rfl) rfl rfl rfl ?_
                refine gqs_nil ?_
                refine hN15 _ _ ?_
                refine gfrom [(0, .pointer (some ⟨rg, 0, none⟩)), (95, .bool _)] ⟨rfl, rfl, trivial⟩ fun σ => ?_
                refine gcond (b := _) rfl (fun hc95 => ?_) (fun hc95 => ?_)
                · 
                  replace hc95 := of_decide_eq_true hc95
                  have hN : nextW s j = k + 1 := by rw [nextW, hend, if_pos (by omega)]; omega
                  refine greg ?_
                  refine gop (y_move (v := .pointer (some ⟨rg, 0, none⟩)) rfl) rfl rfl rfl ?_
                  refine gop (y_nilCheck rfl) rfl rfl rfl ?_
                  refine gop (y_fieldAddr_box fa60_3 rfl) rfl rfl rfl ?_
                  refine gop (y_load Tryd.isAgg3 rfl (cell_box 0 rfl rfl)) rfl rfl rfl ?_
                  refine gop (y_add rfl rfl ⟨by omega, by omega⟩) rfl rfl rfl ?_
                  refine gop (y_nilCheck rfl) rfl rfl rfl ?_
                  refine gop (y_fieldAddr_box fa60_3 rfl) rfl rfl rfl ?_
                  refine gop_store 0 (v := .int _ _) (cs' := #[_, _, _, _, _]) rfl rfl Tryd.sizeOf3 rfl rfl rfl rfl (Nat.le_of_ble_eq_true rfl) rfl rfl ?_
                  refine gops_nil ?_
                  intro w1 hM
                  refine ⟨_, res0 rfl, ?_⟩
                  rw [hat, hN]
                  exact ⟨rfl, weak_take (T' := [_, fr]) rfl _ hM⟩
                · 
                  replace hc95 := of_decide_eq_false hc95
                  have hN : nextW s j = k := by rw [nextW, hend, if_neg (by omega)]
                  refine gskip ?_
                  intro w1 hM
                  refine ⟨_, res0 rfl, ?_⟩
                  rw [hat, hN]
                  exact ⟨rfl, weak_take (T' := [_, fr]) rfl _ hM⟩
              · 
                have hg84d := of_decide_eq_false hg84
                refine gq_off rfl rfl rfl rfl hg84 rfl rfl ?_
                refine gq_off rfl rfl rfl rfl hg84 rfl rfl ?_
                refine gq_off rfl rfl rfl rfl hg84 rfl rfl ?_
                refine gq_off rfl rfl rfl rfl hg84 rfl rfl ?_
                refine gq_off rfl rfl rfl rfl hg84 rfl rfl ?_
                refine gq_off rfl rfl rfl rfl hg84 rfl rfl ?_
                refine gq_off rfl rfl rfl rfl hg84 rfl rfl ?_
                refine gq_off rfl rfl rfl rfl hg84 rfl rfl ?_
                refine gq_off rfl rfl rfl rfl hg84 rfl rfl ?_
                refine gq (y_pick_f (v := .bool _) rfl hg84 rfl) rfl rfl rfl ?_
                refine gqs_nil ?_
                refine hN15 _ _ ?_
                refine gfrom [(0, .pointer (some ⟨rg, 0, none⟩)), (95, .bool _)] ⟨rfl, rfl, trivial⟩ fun σ => ?_
                refine gcond (b := _) rfl (fun hc95 => ?_) (fun hc95 => ?_)
                · 
                  cases hc95
                · 
                  have hN : nextW s j = k := by rw [nextW, hend, if_neg (by omega)]
                  refine gskip ?_
                  intro w1 hM
                  refine ⟨_, res0 rfl, ?_⟩
                  rw [hat, hN]
                  exact ⟨rfl, weak_take (T' := [_, fr]) rfl _ hM⟩
          · 
            have hg55d := of_decide_eq_false hg55
            refine gq_off rfl rfl rfl rfl hg55 rfl rfl ?_
            refine gq_off rfl rfl rfl rfl hg55 rfl rfl ?_
            refine gq_off rfl rfl rfl rfl hg55 rfl rfl ?_
            refine gq_off rfl rfl rfl rfl hg55 rfl rfl ?_
            refine gq_off rfl rfl rfl rfl hg55 rfl rfl ?_
            refine gq_off rfl rfl rfl rfl hg55 rfl rfl ?_
            refine gq_off rfl rfl rfl rfl hg55 rfl rfl ?_
            refine gq_off rfl rfl rfl rfl hg55 rfl rfl ?_
            refine gq_off rfl rfl rfl rfl hg55 rfl rfl ?_
            refine gq_off rfl rfl rfl rfl hg55 rfl rfl ?_
            refine gq (y_pick_f (v := .bool _) rfl hg55 rfl) rfl rfl rfl ?_
            refine gqs_nil ?_
            refine hN14 _ _ ?_
            refine gfrom [(0, .pointer (some ⟨rg, 0, none⟩)), (67, .bool _)] ⟨rfl, rfl, trivial⟩ fun σ => ?_
            refine gcond (b := _) rfl (fun hc67 => ?_) (fun hc67 => ?_)
            · 
              cases hc67
            · 
              have hend : endW s j = k := by
                rw [← hks]
                refine run_stop (fun h => ?_)
                by_cases hw : woB s k = true
                · exact absurd ((sep_idx s k).2 hw) (by omega)
                · simpa using hw
              refine gexit ?_
              refine hN12 _ _ ?_
              refine gfrom [(0, .pointer (some ⟨rg, 0, none⟩))] ⟨rfl, trivial⟩ fun σ => ?_
              refine gseq fun N16 hN16 => ?_
              refine greg_q (by kernel_rfl) (by kernel_rfl) ?_
              refine gq (y_move (v := .pointer (some ⟨rg, 0, none⟩)) rfl) rfl rfl rfl ?_
              refine gq (y_nilCheck rfl) rfl rfl rfl ?_
              refine gq (y_fieldAddr_box fa60_3 rfl) rfl rfl rfl ?_
              refine gq (y_load Tryd.isAgg3 rfl (cell_box 0 rfl rfl)) rfl rfl rfl ?_
              refine gq (y_move (v := .pointer (some ⟨rg, 0, none⟩)) rfl) rfl rfl rfl ?_
              refine gq (y_nilCheck rfl) rfl rfl rfl ?_
              refine gq (y_fieldAddr_box fa60_2 rfl) rfl rfl rfl ?_
              refine gq (y_load Tryd.isAgg3 rfl (cell_box 0 rfl rfl)) rfl rfl rfl ?_
              refine gq (y_eql rfl rfl) rfl rfl rfl ?_
              refine gq (y_move (v := .bool _) rfl) rfl rfl rfl ?_
              refine gq_if (want := true) rfl rfl rfl rfl rfl rfl (fun hg84 => ?_) (fun hg84 => ?_)
              · 
                have hg84d := of_decide_eq_true hg84
                refine gq (y_bare (y_move (v := .pointer (some ⟨rg, 0, none⟩)) rfl)) rfl rfl rfl ?_
                refine gq_on rfl rfl rfl rfl hg84 ?_
                refine gq (y_bare (y_nilCheck rfl)) rfl rfl rfl ?_
                refine gq_on rfl rfl rfl rfl hg84 ?_
                refine gq (y_bare (y_fieldAddr_box fa60_2 rfl)) rfl rfl rfl ?_
                refine gq_on rfl rfl rfl rfl hg84 ?_
                refine gq (y_bare (y_load Tryd.isAgg3 rfl (cell_box 0 rfl rfl))) rfl rfl rfl ?_
                refine gq_on rfl rfl rfl rfl hg84 ?_
                refine gq (y_bare (y_move (v := .pointer (some ⟨rg, 0, none⟩)) rfl)) rfl rfl rfl ?_
                refine gq_on rfl rfl rfl rfl hg84 ?_
                refine gq (y_bare (y_nilCheck rfl)) rfl rfl rfl ?_
                refine gq_on rfl rfl rfl rfl hg84 ?_
                refine gq (y_bare (y_fieldAddr_box fa60_1 rfl)) rfl rfl rfl ?_
                refine gq_on rfl rfl rfl rfl hg84 ?_
                refine gq (y_bare (y_load Tryd.isAgg9 rfl (cell_box 0 rfl rfl))) rfl rfl rfl ?_
                refine gq_on rfl rfl rfl rfl hg84 ?_
                refine gq (y_bare (y_lens Tryd.underlying9 rfl)) rfl rfl rfl ?_
                refine gq_on rfl rfl rfl rfl hg84 ?_
                refine gq (y_bare (y_lss rfl rfl)) rfl rfl rfl ?_
                refine gq (y_pick_t (v := .bool _) rfl hg84 rfl) rfl rfl rfl ?_
                refine gqs_nil ?_
                refine hN16 _ _ ?_
                refine gfrom [(0, .pointer (some ⟨rg, 0, none⟩)), (95, .bool _)] ⟨rfl, rfl, trivial⟩ fun σ => ?_
                refine gcond (b := _) rfl (fun hc95 => ?_) (fun hc95 => ?_)
                · 
                  replace hc95 := of_decide_eq_true hc95
                  have hN : nextW s j = k + 1 := by rw [nextW, hend, if_pos (by omega)]; omega
                  refine greg ?_
                  refine gop (y_move (v := .pointer (some ⟨rg, 0, none⟩)) rfl) rfl rfl rfl ?_
                  refine gop (y_nilCheck rfl) rfl rfl rfl ?_
                  refine gop (y_fieldAddr_box fa60_3 rfl) rfl rfl rfl ?_
                  refine gop (y_load Tryd.isAgg3 rfl (cell_box 0 rfl rfl)) rfl rfl rfl ?_
                  refine gop (y_add rfl rfl ⟨by omega, by omega⟩) rfl rfl rfl ?_
                  refine gop (y_nilCheck rfl) rfl rfl rfl ?_
                  refine gop (y_fieldAddr_box fa60_3 rfl) rfl rfl rfl ?_
                  refine gop_store 0 (v := .int _ _) (cs' := #[_, _, _, _, _]) rfl rfl Tryd.sizeOf3 rfl rfl rfl rfl (Nat.le_of_ble_eq_true rfl) rfl rfl ?_
                  refine gops_nil ?_
                  intro w1 hM
                  refine ⟨_, res0 rfl, ?_⟩
                  rw [hat, hN]
                  exact ⟨rfl, weak_take (T' := [_, fr]) rfl _ hM⟩
                · 
                  replace hc95 := of_decide_eq_false hc95
                  have hN : nextW s j = k := by rw [nextW, hend, if_neg (by omega)]
                  refine gskip ?_
                  intro w1 hM
                  refine ⟨_, res0 rfl, ?_⟩
                  rw [hat, hN]
                  exact ⟨rfl, weak_take (T' := [_, fr]) rfl _ hM⟩
              · 
                have hg84d := of_decide_eq_false hg84
                refine gq_off rfl rfl rfl rfl hg84 rfl rfl ?_
                refine gq_off rfl rfl rfl rfl hg84 rfl rfl ?_
                refine gq_off rfl rfl rfl rfl hg84 rfl rfl ?_
                refine gq_off rfl rfl rfl rfl hg84 rfl rfl ?_
                refine gq_off rfl rfl rfl rfl hg84 rfl rfl ?_
                refine gq_off rfl rfl rfl rfl hg84 rfl rfl ?_
                refine gq_off rfl rfl rfl rfl hg84 rfl rfl ?_
                refine gq_off rfl rfl rfl rfl hg84 rfl rfl ?_
                refine gq_off rfl rfl rfl rfl hg84 rfl rfl ?_
                refine gq (y_pick_f (v := .bool _) rfl hg84 rfl) rfl rfl rfl ?_
                refine gqs_nil ?_
                refine hN16 _ _ ?_
                refine gfrom [(0, .pointer (some ⟨rg, 0, none⟩)), (95, .bool _)] ⟨rfl, rfl, trivial⟩ fun σ => ?_
                refine gcond (b := _) rfl (fun hc95 => ?_) (fun hc95 => ?_)
                · 
                  cases hc95
                · 
                  have hN : nextW s j = k := by rw [nextW, hend, if_neg (by omega)]
                  refine gskip ?_
                  intro w1 hM
                  refine ⟨_, res0 rfl, ?_⟩
                  rw [hat, hN]
                  exact ⟨rfl, weak_take (T' := [_, fr]) rfl _ hM⟩
end Go.Proofs.YtllblbkbglifjaaDoor
namespace Go.Proofs.YtllblbkbglifjaaDoor
open Go.RowKit Go.Cf
set_option maxRecDepth 10000
theorem fa60_4 (a : Addr) (w : World) : (Instr.fieldAt 60 (.pointer (some a)) 4).run Tryd.prog w = .ok (.pointer (some (a.add 4))) w := by kernel_rfl
set_option maxHeartbeats 1000000 in
theorem rdWord_any (w : World) (rg : Nat) (s : ByteArray) (a x : Nat) (hax : a ≤ x) (hxs : x ≤ s.size) (h1 : w.cell? ⟨rg, 1, none⟩ = some (.string s)) (h2 : w.cell? ⟨rg, 2, none⟩ = some (.int .i64 (a : Int))) (h3 : w.cell? ⟨rg, 3, none⟩ = some (.int .i64 (x : Int))) : Calls Tryd.prog 49 #[.pointer (some ⟨rg, 0, none⟩)] w fun e w' => e = .returned (.string (s.extract a x)) ∧ Below w.heap.size w w' := by
  refine gcalls Tryd.func49 rfl Tryd.ntmps49 (Nat.le_of_ble_eq_true rfl) ?_
  refine gfrom [(0, .pointer (some ⟨rg, 0, none⟩))] ⟨rfl, trivial⟩ fun σ => ?_
  refine gseq fun N1 hN1 => ?_
  refine greg ?_
  refine gop (y_assign (v := .string _) rfl) rfl rfl rfl ?_
  refine gops_nil ?_
  refine hN1 _ _ ?_
  refine gfrom [(0, .pointer (some ⟨rg, 0, none⟩))] ⟨rfl, trivial⟩ fun σ => ?_
  refine gseq fun N2 hN2 => ?_
  refine greg_q (by kernel_rfl) (by kernel_rfl) ?_
  refine gq (y_move (v := .pointer (some ⟨rg, 0, none⟩)) rfl) rfl rfl rfl ?_
  refine gq (y_nilCheck rfl) rfl rfl rfl ?_
  refine gq (y_fieldAddr_box fa60_1 rfl) rfl rfl rfl ?_
  refine gq (y_load Tryd.isAgg9 rfl (cell_base h1)) rfl rfl rfl ?_
  refine gq (y_move (v := .pointer (some ⟨rg, 0, none⟩)) rfl) rfl rfl rfl ?_
  refine gq (y_nilCheck rfl) rfl rfl rfl ?_
  refine gq (y_fieldAddr_box fa60_2 rfl) rfl rfl rfl ?_
  refine gq (y_load Tryd.isAgg3 rfl (cell_base h2)) rfl rfl rfl ?_
  refine gq (y_move (v := .pointer (some ⟨rg, 0, none⟩)) rfl) rfl rfl rfl ?_
  refine gq (y_nilCheck rfl) rfl rfl rfl ?_
  refine gq (y_fieldAddr_box fa60_3 rfl) rfl rfl rfl ?_
  refine gq (y_load Tryd.isAgg3 rfl (cell_base h3)) rfl rfl rfl ?_
  refine gq (y_strslice Tryd.underlying9 rfl rfl rfl (by omega) (by omega) (by omega)) rfl rfl rfl ?_
  refine gq (y_assign (v := .string _) rfl) rfl rfl rfl ?_
  refine gqs_nil ?_
  refine hN2 _ _ ?_
  refine gfrom [(2, .string _)] ⟨rfl, trivial⟩ fun σ => ?_
  refine gret fun w1 hM => ?_
  refine ⟨_, res1 rfl (rt (v := .string _) rfl), ?_⟩
  exact ⟨by simp, hM.low⟩
set_option maxHeartbeats 4000000 in
theorem rdTake_any (w0 w : World) (rg n bc : Nat) (B : Option Addr) (s : ByteArray) (code : Int) (fr : Reg) (hs : s.size ≤ 200) (a : Nat) (ts : List Tk) (hrs : RS s a ts) (x : ByteArray) (hM0 : Mem w0 [box rg (.cells #[.slice B n bc, .string s, .int .i64 ((a : Nat)), .int .i64 ((nextW s (a) : Nat)), .int .i64 code] 60), fr] w) :
    Calls Tryd.prog 45 #[.pointer (some ⟨rg, 0, none⟩), .string x] w fun e w' => ∃ a' ts', e = .returned (.bool (decide (hd ts = x))) ∧ RS s a' ts' ∧ ts' = (if hd ts = x then ts.tail else ts) ∧ Mem w0 [box rg (.cells #[.slice B n bc, .string s, .int .i64 ((a' : Nat)), .int .i64 ((nextW s (a') : Nat)), .int .i64 code] 60), fr] w' := by
  refine gcallsT Tryd.func45 rfl Tryd.ntmps45 (Nat.le_of_ble_eq_true rfl) hM0 ?_
  refine gfrom [(0, .pointer (some ⟨rg, 0, none⟩)), (1, .string x)] ⟨rfl, rfl, trivial⟩ fun σ => ?_
  refine gseq fun N1 hN1 => ?_
  refine greg ?_
  refine gop (y_assign (v := .bool _) rfl) rfl rfl rfl ?_
  refine gops_nil ?_
  refine hN1 _ _ ?_
  refine gfrom [(0, .pointer (some ⟨rg, 0, none⟩)), (1, .string x)] ⟨rfl, rfl, trivial⟩ fun σ => ?_
  refine gseq fun N2 hN2 => ?_
  refine greg ?_
  refine gop (y_move (v := .pointer (some ⟨rg, 0, none⟩)) rfl) rfl rfl rfl ?_
  refine gop_pure (e_call (vs := [.pointer (some ⟨rg, 0, none⟩)]) Tryd.func49 rfl (by kernel_rfl) rfl) (fun w hM => rdWord_any w rg s _ _ (next_ge _ _) (next_le hrs.le) (cell_box (w0 := w0) 0 (off := 1) rfl rfl w hM) (cell_box (w0 := w0) 0 (off := 2) rfl rfl w hM) (cell_box (w0 := w0) 0 (off := 3) rfl rfl w hM)) rfl rfl rfl ?_
  refine gop (y_move (v := .string x) rfl) rfl rfl rfl ?_
  refine gop (y_eqls rfl rfl) rfl rfl rfl ?_
  refine gop (y_assign (v := .bool _) rfl) rfl rfl rfl ?_
  refine gops_nil ?_
  refine hN2 _ _ ?_
  refine gfrom [(0, .pointer (some ⟨rg, 0, none⟩)), (5, .bool _)] ⟨rfl, rfl, trivial⟩ fun σ => ?_
  refine gseq fun N3 hN3 => ?_
  refine gseq fun N4 hN4 => ?_
  refine greg ?_
  refine gop (y_move (v := .bool _) rfl) rfl rfl rfl ?_
  refine gops_nil ?_
  refine hN4 _ _ ?_
  refine gfrom [(0, .pointer (some ⟨rg, 0, none⟩)), (5, .bool _), (10, .bool _)] ⟨rfl, rfl, rfl, trivial⟩ fun σ => ?_
  refine gcond (b := _) rfl (fun hc10 => ?_) (fun hc10 => ?_)
  · 
    rw [strEq_dec, hrs.hd] at hc10
    have hx := of_decide_eq_true hc10
    refine greg ?_
    refine gop (y_move (v := .pointer (some ⟨rg, 0, none⟩)) rfl) rfl rfl rfl ?_
    refine gop_does1 0 (fun v r G => v = .tuple #[] ∧ r = box rg (.cells #[.slice B n bc, .string s, .int .i64 ((skipW s (nextW s a) : Nat)), .int .i64 ((nextW s (skipW s (nextW s a)) : Nat)), .int .i64 code] 60) ∧ G = []) (e_call (vs := [.pointer (some ⟨rg, 0, none⟩)]) Tryd.func30 rfl (by kernel_rfl) rfl) rfl (fun w fr1 hfr hM => (rdScan_any _ w rg _ _ _ s _ fr1 hs _ _ _ rfl (next_le hrs.le) hM).mono fun _ _ ⟨h1, h2⟩ => ⟨_, _, [], h1, ⟨rfl, rfl, rfl⟩, h2⟩) rfl rfl rfl ?_
    rintro _ _ _ ⟨rfl, rfl, rfl⟩
    refine gops_nil ?_
    refine hN3 _ _ ?_
    refine gT [box rg _, fr] rfl ?_
    refine gfrom [(5, .bool _)] ⟨rfl, trivial⟩ fun σ => ?_
    refine gseq fun N5 hN5 => ?_
    refine greg ?_
    refine gop (y_move (v := .bool _) rfl) rfl rfl rfl ?_
    refine gop (y_assign (v := .bool _) rfl) rfl rfl rfl ?_
    refine gops_nil ?_
    refine hN5 _ _ ?_
    refine gfrom [(4, .bool _)] ⟨rfl, trivial⟩ fun σ => ?_
    refine gret fun w1 hM => ?_
    refine ⟨_, res1 rfl (rt (v := .bool _) rfl), ?_⟩
    rw [strEq_dec, hrs.hd]
    first
    | exact ⟨_, _, rfl, hrs.next, by rw [if_pos hx], weak_take (T' := [_, fr]) rfl _ hM⟩
    | exact ⟨_, _, rfl, hrs, by rw [if_neg hx], weak_take (T' := [_, fr]) rfl _ hM⟩
  · 
    rw [strEq_dec, hrs.hd] at hc10
    have hx := of_decide_eq_false hc10
    refine gskip ?_
    refine hN3 _ _ ?_
    refine gfrom [(5, .bool _)] ⟨rfl, trivial⟩ fun σ => ?_
    refine gseq fun N6 hN6 => ?_
    refine greg ?_
    refine gop (y_move (v := .bool _) rfl) rfl rfl rfl ?_
    refine gop (y_assign (v := .bool _) rfl) rfl rfl rfl ?_
    refine gops_nil ?_
    refine hN6 _ _ ?_
    refine gfrom [(4, .bool _)] ⟨rfl, trivial⟩ fun σ => ?_
    refine gret fun w1 hM => ?_
    refine ⟨_, res1 rfl (rt (v := .bool _) rfl), ?_⟩
    rw [strEq_dec, hrs.hd]
    first
    | exact ⟨_, _, rfl, hrs.next, by rw [if_pos hx], weak_take (T' := [_, fr]) rfl _ hM⟩
    | exact ⟨_, _, rfl, hrs, by rw [if_neg hx], weak_take (T' := [_, fr]) rfl _ hM⟩
set_option maxHeartbeats 4000000 in
theorem rdFail_any (w0 w : World) (rg n bc : Nat) (B : Option Addr) (s : ByteArray) (code a x : Int) (fr : Reg) (c : Int) (hM0 : Mem w0 [box rg (.cells #[.slice B n bc, .string s, .int .i64 (a), .int .i64 (x), .int .i64 code] 60), fr] w) :
    Calls Tryd.prog 32 #[.pointer (some ⟨rg, 0, none⟩), .int .i64 c] w fun e w' => e = .returned (.tuple #[.int .i64 0, .bool false]) ∧ Mem w0 [box rg (.cells #[.slice B n bc, .string s, .int .i64 (a), .int .i64 (x), .int .i64 c] 60), fr] w' := by
  refine gcallsT Tryd.func32 rfl Tryd.ntmps32 (Nat.le_of_ble_eq_true rfl) hM0 ?_
  refine gfrom [(0, .pointer (some ⟨rg, 0, none⟩)), (1, .int _ _)] ⟨rfl, rfl, trivial⟩ fun σ => ?_
  refine gseq fun N1 hN1 => ?_
  refine greg ?_
  refine gop (y_assign (v := .int _ _) rfl) rfl rfl rfl ?_
  refine gop (y_assign (v := .bool _) rfl) rfl rfl rfl ?_
  refine gops_nil ?_
  refine hN1 _ _ ?_
  refine gfrom [(0, .pointer (some ⟨rg, 0, none⟩)), (1, .int _ _)] ⟨rfl, rfl, trivial⟩ fun σ => ?_
  refine gseq fun N2 hN2 => ?_
  refine greg ?_
  refine gop (y_move (v := .pointer (some ⟨rg, 0, none⟩)) rfl) rfl rfl rfl ?_
  refine gop (y_move (v := .int _ _) rfl) rfl rfl rfl ?_
  refine gop (y_nilCheck rfl) rfl rfl rfl ?_
  refine gop (y_fieldAddr_box fa60_4 rfl) rfl rfl rfl ?_
  refine gop_store 0 (v := .int _ _) (cs' := #[_, _, _, _, _]) rfl rfl Tryd.sizeOf3 rfl rfl rfl rfl (Nat.le_of_ble_eq_true rfl) rfl rfl ?_
  refine gops_nil ?_
  refine hN2 _ _ ?_
  refine gT [box rg _, fr] rfl ?_
  refine gfrom [] trivial fun σ => ?_
  refine gseq fun N3 hN3 => ?_
  refine greg ?_
  refine gop (y_assign (v := .int _ _) rfl) rfl rfl rfl ?_
  refine gop (y_assign (v := .bool _) rfl) rfl rfl rfl ?_
  refine gops_nil ?_
  refine hN3 _ _ ?_
  refine gfrom [(4, .int _ _), (5, .bool _)] ⟨rfl, rfl, trivial⟩ fun σ => ?_
  refine gret fun w1 hM => ?_
  refine ⟨_, res2 rfl (rt (v := .int _ _) rfl) (rt (v := .bool _) rfl), ?_⟩
  exact ⟨rfl, weak_take (T' := [_, fr]) rfl _ hM⟩
set_option maxHeartbeats 4000000 in
theorem polAdd5_any (w0 w : World) (rg bc : Nat) (B : Option Addr) (s : ByteArray) (code a x : Int) (o : List PN) (fr : Reg) (hM0 : Mem w0 [box rg (.cells #[.slice B o.length bc, .string s, .int .i64 (a), .int .i64 (x), .int .i64 code] 60), rowl pnCells w0.heap.size 47 4 (.slice B (o).length bc) (o), fr] w) (hol : o.length ≤ 1000) (n : PN) :
    Calls Tryd.prog 41 #[.pointer (some ⟨rg, 0, none⟩), pnV n] w fun e w' => ∃ B' bc', e = .returned (.int .i64 (o.length : Nat)) ∧ Mem w0 [box rg (.cells #[.slice B' (o ++ [n]).length bc', .string s, .int .i64 (a), .int .i64 (x), .int .i64 code] 60), rowl pnCells w0.heap.size 47 4 (.slice B' (o ++ [n]).length bc') (o ++ [n]), fr] w' := by
  refine gcallsT Tryd.func41 rfl Tryd.ntmps41 (Nat.le_of_ble_eq_true rfl) hM0 ?_
  refine gfrom [(0, .pointer (some ⟨rg, 0, none⟩)), (1, .agg #[_, _, _, _])] ⟨rfl, rfl, trivial⟩ fun σ => ?_
  refine gseq fun N1 hN1 => ?_
  refine greg ?_
  refine gop_box (v := .agg #[_, _, _, _]) (cs := #[_, _, _, _]) rfl rfl rfl (fun b3 hb3 => ?_)
  refine gop (y_assign (v := .int _ _) rfl) rfl rfl rfl ?_
  refine gops_nil ?_
  refine hN1 _ _ ?_
  refine gT [box rg _, rowl _ _ _ _ _ _, fr, box b3 _] rfl ?_
  refine gfrom [(0, .pointer (some ⟨rg, 0, none⟩)), (3, .pointer _)] ⟨rfl, rfl, trivial⟩ fun σ => ?_
  refine gseq fun N2 hN2 => ?_
  refine greg_e1 [10] [(1, emp)] (by kernel_rfl) ?_
  refine ge_take 0 (TK := [box rg _, emp, fr, box b3 _]) rfl (by kernel_rfl) (by kernel_rfl) (by kernel_rfl) #[false, true, true, true, true, true, true, true, false, false, false] (by kernel_rfl) rfl (y_move (v := .pointer (some ⟨rg, 0, none⟩)) rfl) rfl rfl rfl (weak_emp 1 rfl) (listed' := #[true, false, false, false, false, false, false, false, false, false, false]) rfl ?_
  refine ge_take 1 (TK := [box rg _, emp, fr, box b3 _]) rfl (by kernel_rfl) (by kernel_rfl) (by kernel_rfl) #[true, false, false, false, false, true, true, false, false, false, false] (by kernel_rfl) rfl (y_move (v := .pointer (some ⟨rg, 0, none⟩)) rfl) rfl rfl rfl (weak_emp 1 rfl) (listed' := #[true, true, false, false, false, false, false, false, false, false, false]) rfl ?_
  refine ge_take 2 (TK := [box rg _, emp, fr, box b3 _]) rfl (by kernel_rfl) (by kernel_rfl) (by kernel_rfl) #[true, true, false, false, false, true, true, false, false, false, false] (by kernel_rfl) rfl (y_nilCheck rfl) rfl rfl rfl (weak_emp 1 rfl) (listed' := #[true, true, true, false, false, false, false, false, false, false, false]) rfl ?_
  refine ge_take 3 (TK := [box rg _, emp, fr, box b3 _]) rfl (by kernel_rfl) (by kernel_rfl) (by kernel_rfl) #[true, true, true, false, false, true, true, false, false, false, false] (by kernel_rfl) rfl (y_fieldAddr_box fa52_0 rfl) rfl rfl rfl (weak_emp 1 rfl) (listed' := #[true, true, true, true, false, false, false, false, false, false, false]) rfl ?_
  refine ge_take 4 (TK := [box rg _, emp, fr, box b3 _]) rfl (by kernel_rfl) (by kernel_rfl) (by kernel_rfl) #[true, true, true, true, false, true, true, false, false, false, false] (by kernel_rfl) rfl (y_load Tryd.isAgg22 rfl (cell_box 0 rfl rfl)) rfl rfl rfl (weak_emp 1 rfl) (listed' := #[true, true, true, true, true, false, false, false, false, false, false]) rfl ?_
  refine ge_take 5 (TK := [box rg _, emp, fr, box b3 _]) rfl (by kernel_rfl) (by kernel_rfl) (by kernel_rfl) #[true, true, true, true, true, false, false, false, false, false, false] (by kernel_rfl) rfl (y_loads (cs := [_, _, _, _]) Tryd.isAgg47 Tryd.sizeOf47 rfl rfl (cells_box 3 rfl)) rfl rfl rfl (weak_emp 1 rfl) (listed' := #[true, true, true, true, true, true, false, false, false, false, false]) rfl ?_
  refine ge_one 6 (k' := 0) (listed' := #[true, true, true, true, true, true, true, false, false, false, false]) (by kernel_rfl) rfl rfl rfl ?_
  refine gop_lit (vs := [.agg #[_, _, _, _]]) (cells := #[_, _, _, _]) Tryd.underlying22 Tryd.sizeOf47 Tryd.zeroValue47 rfl (by decide) (by decide) rfl rfl rfl rfl (fun b11 hb11 => ?_)
  refine gops_nil ?_
  refine ge_fin (TK := [box rg _, emp, fr, box b3 _]) rfl (weak_trans (weak_take (T' := [box rg _, rowl _ _ _ _ _ _, fr, box b3 _]) rfl) (weak_emp 1 rfl)) ?_
  refine ge_one 7 (k' := 0) (listed' := #[true, true, true, true, true, true, true, true, false, false, false]) (by kernel_rfl) rfl rfl rfl ?_
  refine gop_append 1 (f := pnCells) (l2 := [n]) Tryd.underlying22 el47 wide_pn (v := .slice _ _ _) rfl rfl rfl rfl (fun h => by cases h) (by simp [maxLen]; omega) (by simp; omega) (src_box 4 rfl rfl) rfl (fun v12 => ?_)
  refine gops_fact (fun w hM => own_form (hM.own 1 rfl)) ?_
  rintro ⟨A12, c12, rfl, hc12, hm12⟩
  refine gops_nil ?_
  refine ge_fin (TK := [box rg _, emp, fr, box b3 _]) rfl (weak_trans (weak_take (T' := [box rg _, rowl _ _ _ _ _ _, fr, box b3 _]) rfl) (weak_emp 1 rfl)) ?_
  refine ge_take 8 (TK := [box rg _, emp, fr, box b3 _]) rfl (by kernel_rfl) (by kernel_rfl) (by kernel_rfl) #[true, true, true, true, true, true, true, true, false, false, false] (by kernel_rfl) rfl (y_nilCheck rfl) rfl rfl rfl (weak_trans (weak_take (T' := [box rg _, rowl _ _ _ _ _ _, fr, box b3 _]) rfl) (weak_emp 1 rfl)) (listed' := #[true, true, true, true, true, true, true, true, true, false, false]) rfl ?_
  refine ge_take 9 (TK := [box rg _, emp, fr, box b3 _]) rfl (by kernel_rfl) (by kernel_rfl) (by kernel_rfl) #[true, true, true, true, true, true, true, true, true, false, false] (by kernel_rfl) rfl (y_fieldAddr_box fa52_0 rfl) rfl rfl rfl (weak_trans (weak_take (T' := [box rg _, rowl _ _ _ _ _ _, fr, box b3 _]) rfl) (weak_emp 1 rfl)) (listed' := #[true, true, true, true, true, true, true, true, true, true, false]) rfl ?_
  refine ge_one 10 (k' := 1) (listed' := #[true, true, true, true, true, true, true, true, true, true, true]) (by kernel_rfl) rfl rfl rfl ?_
  refine gop_store 0 (v := .slice A12 _ c12) (cs' := #[_, _, _, _, _]) rfl rfl Tryd.sizeOf22 rfl rfl rfl rfl (Nat.le_of_ble_eq_true rfl) rfl rfl ?_
  refine gops_nil ?_
  refine ge_fin (TK := []) rfl (weak_nil) ?_
  refine ge_done (by kernel_rfl) ?_
  refine hN2 _ _ ?_
  refine gT [box rg _, rowl _ _ _ _ _ _, fr, box b3 _, box b11 _] rfl ?_
  refine gfrom [(0, .pointer (some ⟨rg, 0, none⟩))] ⟨rfl, trivial⟩ fun σ => ?_
  refine gseq fun N3 hN3 => ?_
  refine greg ?_
  refine gop (y_move (v := .pointer (some ⟨rg, 0, none⟩)) rfl) rfl rfl rfl ?_
  refine gop (y_nilCheck rfl) rfl rfl rfl ?_
  refine gop (y_fieldAddr_box fa52_0 rfl) rfl rfl rfl ?_
  refine gop (y_load Tryd.isAgg22 rfl (cell_box 0 rfl rfl)) rfl rfl rfl ?_
  refine gop (y_len Tryd.underlying22 rfl) rfl rfl rfl ?_
  refine gop (y_sub rfl rfl ⟨by first | omega | (simp; done) | (simp; omega), by first | omega | (simp; done) | (simp; omega)⟩) rfl rfl rfl ?_
  refine gop (y_assign (v := .int _ _) rfl) rfl rfl rfl ?_
  refine gops_nil ?_
  refine hN3 _ _ ?_
  refine gfrom [(4, .int _ _)] ⟨rfl, trivial⟩ fun σ => ?_
  refine gret fun w1 hM => ?_
  refine ⟨_, res1 rfl (rt (v := .int _ _) rfl), ?_⟩
  exact ⟨A12, c12, by simp, weak_take (T' := [_, _, fr]) rfl _ hM⟩
end Go.Proofs.YtllblbkbglifjaaDoor
namespace Go.Proofs.YtllblbkbglifjaaDoor
open Go.RowKit Go.Cf
set_option maxRecDepth 10000
theorem fa60_0 (a : Addr) (w : World) : (Instr.fieldAt 60 (.pointer (some a)) 0).run Tryd.prog w = .ok (.pointer (some (a.add 0))) w := by kernel_rfl
theorem bd47_0_1 (x1 : Int) (x2 : Int) : Tryd.prog.built 47 [(0, .int .i64 x1), (1, .int .i64 x2)] = some #[.int .i64 x1, .int .i64 x2, .int .i64 0, .int .i64 0] := by kernel_rfl
set_option maxHeartbeats 8000000 in
theorem rdNumber_any (w0 w : World) (rg bc : Nat) (B : Option Addr) (s : ByteArray) (code : Int) (o : List PN) (fr : Reg) (hs : s.size ≤ 200) (a : Nat) (ts : List Tk) (hrs : RS s a ts) (kd : Int) (hol : o.length ≤ 900) (hL : LaidP w0) (hM0 : Mem w0 [box rg (.cells #[.slice B o.length bc, .string s, .int .i64 ((a : Nat)), .int .i64 ((nextW s (a) : Nat)), .int .i64 code] 60), rowl pnCells w0.heap.size 47 4 (.slice B (o).length bc) (o), fr] w) :
    Calls Tryd.prog 48 #[.pointer (some ⟨rg, 0, none⟩), .int .i64 kd] w fun e w' => ∃ x b B' bc' o' a' code', e = .returned (.tuple #[.int .i64 x, .bool b]) ∧ POK s (numR s.size kd ts) o code x b o' a' code' ∧ Mem w0 [box rg (.cells #[.slice B' o'.length bc', .string s, .int .i64 ((a' : Nat)), .int .i64 ((nextW s (a') : Nat)), .int .i64 code'] 60), rowl pnCells w0.heap.size 47 4 (.slice B' (o').length bc') (o'), fr] w' := by
  have hhd : (hd ts).size ≤ 200 := by rw [← hrs.hd, ByteArray.size_extract]; omega
  refine gcallsT Tryd.func48 rfl Tryd.ntmps48 (Nat.le_of_ble_eq_true rfl) hM0 ?_
  refine gfrom [(0, .pointer (some ⟨rg, 0, none⟩)), (1, .int _ _)] ⟨rfl, rfl, trivial⟩ fun σ => ?_
  refine gseq fun N1 hN1 => ?_
  refine greg ?_
  refine gop (y_assign (v := .int _ _) rfl) rfl rfl rfl ?_
  refine gop (y_assign (v := .bool _) rfl) rfl rfl rfl ?_
  refine gops_nil ?_
  refine hN1 _ _ ?_
  refine gfrom [(0, .pointer (some ⟨rg, 0, none⟩)), (1, .int _ _)] ⟨rfl, rfl, trivial⟩ fun σ => ?_
  refine gseq fun N2 hN2 => ?_
  refine greg ?_
  refine gop (y_move (v := .pointer (some ⟨rg, 0, none⟩)) rfl) rfl rfl rfl ?_
  refine gop_pure (e_call (vs := [.pointer (some ⟨rg, 0, none⟩)]) Tryd.func49 rfl (by kernel_rfl) rfl) (fun w hM => (by have h9 := rdWord_any w rg s _ _ (next_ge _ _) (next_le hrs.le) (cell_box (w0 := w0) 0 (off := 1) rfl rfl w hM) (cell_box (w0 := w0) 0 (off := 2) rfl rfl w hM) (cell_box (w0 := w0) 0 (off := 3) rfl rfl w hM); rw [hrs.hd] at h9; exact h9)) rfl rfl rfl ?_
  refine gop (y_assign (v := .string _) rfl) rfl rfl rfl ?_
  refine gops_nil ?_
  refine hN2 _ _ ?_
  refine gfrom [(0, .pointer (some ⟨rg, 0, none⟩)), (1, .int _ _), (6, .string _)] ⟨rfl, rfl, rfl, trivial⟩ fun σ => ?_
  refine gseq fun N3 hN3 => ?_
  refine greg ?_
  refine gop (y_move (v := .string _) rfl) rfl rfl rfl ?_
  refine gop_got (fun v T' => ∃ n er b, v = .tuple #[.int .i64 n, er] ∧ AtoiEnd (hd ts) n er b ∧ T' = []) (e_call (vs := [.string _]) Tryd.func52 rfl (by kernel_rfl) rfl) (fun w hM => (atoi_any w (hd ts) (by omega) (hL.base hM)).mono fun _ _ ⟨n, er, b, h1, h2, h3⟩ => ⟨_, [], h1, ⟨n, er, b, rfl, h2, rfl⟩, mem_nil h3⟩) rfl rfl rfl ?_
  rintro _ _ ⟨n, er, b, rfl, hAE, rfl⟩
  refine gop (y_move (v := .tuple #[.int _ _, er]) rfl) rfl rfl rfl ?_
  refine gop (y_extract (v := .int _ _) rfl rfl) rfl rfl rfl ?_
  refine gop (y_extract (v := _) rfl rfl) rfl rfl rfl ?_
  refine gop (y_assign (v := .int _ _) rfl) rfl rfl rfl ?_
  refine gop (y_assign (v := _) rfl) rfl rfl rfl ?_
  refine gops_nil ?_
  refine hN3 _ _ ?_
  refine gfrom [(0, .pointer (some ⟨rg, 0, none⟩)), (1, .int _ _), (6, .string _), (7, .int _ _), (8, _)] ⟨rfl, rfl, rfl, rfl, rfl, trivial⟩ fun σ => ?_
  refine gseq fun N4 hN4 => ?_
  refine gseq fun N5 hN5 => ?_
  refine greg ?_
  refine gop (y_move (v := _) rfl) rfl rfl rfl ?_
  refine gop (y_errne (by kernel_rfl) hAE rfl rfl) rfl rfl rfl ?_
  refine gop (y_move (v := .bool _) rfl) rfl rfl rfl ?_
  refine gop_if (want := false) rfl rfl rfl rfl rfl rfl (fun hg18 => ?_) (fun hg18 => ?_)
  · 
    have hg18d := hg18
    refine gop (y_bare (y_move (v := .int _ _) rfl)) rfl rfl rfl ?_
    refine gop_on rfl rfl rfl rfl hg18 ?_
    refine gop_pure (e_call (vs := [.int _ _]) Tryd.func40 rfl (by kernel_rfl) rfl) (fun w hM => itoa_any w n (Lib.atoiAll_bounds (hAE.ok (by assumption))).1 (Lib.atoiAll_bounds (hAE.ok (by assumption))).2 (hL.base hM)) rfl rfl rfl ?_
    refine gop_on rfl rfl rfl rfl hg18 ?_
    refine gop (y_bare (y_move (v := .string _) rfl)) rfl rfl rfl ?_
    refine gop_on rfl rfl rfl rfl hg18 ?_
    refine gop (y_bare (y_neqs rfl rfl)) rfl rfl rfl ?_
    refine gop (y_pick_f (v := .bool _) rfl hg18 rfl) rfl rfl rfl ?_
    refine gops_nil ?_
    refine hN5 _ _ ?_
    refine gfrom [(0, .pointer (some ⟨rg, 0, none⟩)), (1, .int _ _), (7, .int _ _), (23, .bool _)] ⟨rfl, rfl, rfl, rfl, trivial⟩ fun σ => ?_
    refine gcond (b := _) rfl (fun hc23 => ?_) (fun hc23 => ?_)
    · 
      have hV : numV (hd ts) = none := by first | exact num_bad hAE (.inl (by assumption)) | exact num_bad hAE (.inr (fun h9 => by rw [h9] at hc23; simp at hc23))
      have hR : numR s.size kd ts = .bad 1 a := by
        rw [numR, hV]
        show Res.bad 1 (pos s.size ts) = _
        rw [hrs.pos]
      refine gseq fun N6 hN6 => ?_
      refine greg ?_
      refine gop (y_move (v := .pointer (some ⟨rg, 0, none⟩)) rfl) rfl rfl rfl ?_
      refine gop_does1 0 (fun v r G => v = .tuple #[.int .i64 0, .bool false] ∧ r = box rg (.cells #[.slice B o.length bc, .string s, .int .i64 ((a : Nat)), .int .i64 ((nextW s (a) : Nat)), .int .i64 1] 60) ∧ G = []) (e_call (vs := [.pointer (some ⟨rg, 0, none⟩), _]) Tryd.func32 rfl (by kernel_rfl) rfl) rfl (fun w fr1 hfr hM => (rdFail_any _ w rg _ _ _ s _ _ _ fr1 1 hM).mono fun _ _ ⟨h1, h2⟩ => ⟨_, _, [], h1, ⟨rfl, rfl, rfl⟩, h2⟩) rfl rfl rfl ?_
      rintro _ _ _ ⟨rfl, rfl, rfl⟩
      refine gop (y_extract (v := .int _ _) rfl rfl) rfl rfl rfl ?_
      refine gop (y_extract (v := .bool _) rfl rfl) rfl rfl rfl ?_
      refine gop (y_assign (v := .int _ _) rfl) rfl rfl rfl ?_
      refine gop (y_assign (v := .bool _) rfl) rfl rfl rfl ?_
      refine gops_nil ?_
      refine hN6 _ _ ?_
      refine gT [box rg _, rowl _ _ _ _ _ _, fr] rfl ?_
      refine gfrom [(4, .int _ _), (5, .bool _)] ⟨rfl, rfl, trivial⟩ fun σ => ?_
      refine gret fun w1 hM => ?_
      refine ⟨_, res2 rfl (rt (v := .int _ _) rfl) (rt (v := .bool _) rfl), ?_⟩
      exact ⟨_, _, B, bc, o, _, _, rfl, pok_bad hR (by omega), weak_take (T' := [_, _, fr]) rfl _ hM⟩
    · 
      have hV : numV (hd ts) = some n := num_good hAE (by assumption) (by rw [strEq_dec] at hc23; simpa using hc23)
      refine gskip ?_
      refine hN4 _ _ ?_
      refine gfrom [(0, .pointer (some ⟨rg, 0, none⟩)), (1, .int _ _), (7, .int _ _)] ⟨rfl, rfl, rfl, trivial⟩ fun σ => ?_
      refine gseq fun N7 hN7 => ?_
      refine gseq fun N8 hN8 => ?_
      refine greg ?_
      refine gop (y_move (v := .int _ _) rfl) rfl rfl rfl ?_
      refine gop (y_lss rfl rfl) rfl rfl rfl ?_
      refine gop (y_move (v := .bool _) rfl) rfl rfl rfl ?_
      refine gop_if (want := false) rfl rfl rfl rfl rfl rfl (fun hg30 => ?_) (fun hg30 => ?_)
      · 
        have hg30d := of_decide_eq_false hg30
        refine gop (y_bare (y_move (v := .int _ _) rfl)) rfl rfl rfl ?_
        refine gop_on rfl rfl rfl rfl hg30 ?_
        refine gop (y_bare (y_move (v := .int _ _) rfl)) rfl rfl rfl ?_
        refine gop_on rfl rfl rfl rfl hg30 ?_
        refine gop_pure (e_call (vs := [.int _ _]) Tryd.func42 rfl (by kernel_rfl) rfl) (fun w hM => polMost_any w _) rfl rfl rfl ?_
        refine gop_on rfl rfl rfl rfl hg30 ?_
        refine gop (y_bare (y_gtr rfl rfl)) rfl rfl rfl ?_
        refine gop (y_pick_f (v := .bool _) rfl hg30 rfl) rfl rfl rfl ?_
        refine gops_nil ?_
        refine hN8 _ _ ?_
        refine gfrom [(0, .pointer (some ⟨rg, 0, none⟩)), (1, .int _ _), (7, .int _ _), (35, .bool _)] ⟨rfl, rfl, rfl, rfl, trivial⟩ fun σ => ?_
        refine gcond (b := _) rfl (fun hc35 => ?_) (fun hc35 => ?_)
        · 
          replace hc35 := of_decide_eq_true hc35
          have hR : numR s.size kd ts = .bad 3 a := by
            rw [numR, hV]
            show (if n < 0 ∨ mostN kd < n then Res.bad 3 (pos s.size ts) else _) = _
            rw [if_pos (by omega), hrs.pos]
          refine gseq fun N9 hN9 => ?_
          refine greg ?_
          refine gop (y_move (v := .pointer (some ⟨rg, 0, none⟩)) rfl) rfl rfl rfl ?_
          refine gop_does1 0 (fun v r G => v = .tuple #[.int .i64 0, .bool false] ∧ r = box rg (.cells #[.slice B o.length bc, .string s, .int .i64 ((a : Nat)), .int .i64 ((nextW s (a) : Nat)), .int .i64 3] 60) ∧ G = []) (e_call (vs := [.pointer (some ⟨rg, 0, none⟩), _]) Tryd.func32 rfl (by kernel_rfl) rfl) rfl (fun w fr1 hfr hM => (rdFail_any _ w rg _ _ _ s _ _ _ fr1 3 hM).mono fun _ _ ⟨h1, h2⟩ => ⟨_, _, [], h1, ⟨rfl, rfl, rfl⟩, h2⟩) rfl rfl rfl ?_
          rintro _ _ _ ⟨rfl, rfl, rfl⟩
          refine gop (y_extract (v := .int _ _) rfl rfl) rfl rfl rfl ?_
          refine gop (y_extract (v := .bool _) rfl rfl) rfl rfl rfl ?_
          refine gop (y_assign (v := .int _ _) rfl) rfl rfl rfl ?_
          refine gop (y_assign (v := .bool _) rfl) rfl rfl rfl ?_
          refine gops_nil ?_
          refine hN9 _ _ ?_
          refine gT [box rg _, rowl _ _ _ _ _ _, fr] rfl ?_
          refine gfrom [(4, .int _ _), (5, .bool _)] ⟨rfl, rfl, trivial⟩ fun σ => ?_
          refine gret fun w1 hM => ?_
          refine ⟨_, res2 rfl (rt (v := .int _ _) rfl) (rt (v := .bool _) rfl), ?_⟩
          exact ⟨_, _, B, bc, o, _, _, rfl, pok_bad hR (by omega), weak_take (T' := [_, _, fr]) rfl _ hM⟩
        · 
          replace hc35 := of_decide_eq_false hc35
          have hR : numR s.size kd ts = .ok (.leaf kd n) ts.tail := by
            rw [numR, hV]
            show (if n < 0 ∨ mostN kd < n then Res.bad 3 (pos s.size ts) else _) = _
            rw [if_neg (by omega)]
          refine gskip ?_
          refine hN7 _ _ ?_
          refine gfrom [(0, .pointer (some ⟨rg, 0, none⟩)), (1, .int _ _), (7, .int _ _)] ⟨rfl, rfl, rfl, trivial⟩ fun σ => ?_
          refine gseq fun N10 hN10 => ?_
          refine greg ?_
          refine gop (y_move (v := .pointer (some ⟨rg, 0, none⟩)) rfl) rfl rfl rfl ?_
          refine gop_does1 0 (fun v r G => v = .tuple #[] ∧ r = box rg (.cells #[.slice B o.length bc, .string s, .int .i64 ((skipW s (nextW s a) : Nat)), .int .i64 ((nextW s (skipW s (nextW s a)) : Nat)), .int .i64 code] 60) ∧ G = []) (e_call (vs := [.pointer (some ⟨rg, 0, none⟩)]) Tryd.func30 rfl (by kernel_rfl) rfl) rfl (fun w fr1 hfr hM => (rdScan_any _ w rg _ _ _ s _ fr1 hs _ _ _ rfl (next_le hrs.le) hM).mono fun _ _ ⟨h1, h2⟩ => ⟨_, _, [], h1, ⟨rfl, rfl, rfl⟩, h2⟩) rfl rfl rfl ?_
          rintro _ _ _ ⟨rfl, rfl, rfl⟩
          refine gops_nil ?_
          refine hN10 _ _ ?_
          refine gT [box rg _, rowl _ _ _ _ _ _, fr] rfl ?_
          refine gfrom [(0, .pointer (some ⟨rg, 0, none⟩)), (1, .int _ _), (7, .int _ _)] ⟨rfl, rfl, rfl, trivial⟩ fun σ => ?_
          refine gseq fun N11 hN11 => ?_
          refine greg ?_
          refine gop (y_move (v := .pointer (some ⟨rg, 0, none⟩)) rfl) rfl rfl rfl ?_
          refine gop (y_nilCheck rfl) rfl rfl rfl ?_
          refine gop (y_fieldAddr_box fa60_0 rfl) rfl rfl rfl ?_
          refine gop (y_move (v := .int _ _) rfl) rfl rfl rfl ?_
          refine gop (y_move (v := .int _ _) rfl) rfl rfl rfl ?_
          refine gop (y_build (vs := [(0, .int _ _), (1, .int _ _)]) (cells := #[_, _, .int .i64 0, .int .i64 0]) rfl (bd47_0_1 _ _)) rfl rfl rfl ?_
          refine gop_does2 0 1 (fun v r s1 G => ∃ B' bc', v = .int .i64 ((o).length : Nat) ∧ r = box rg (.cells #[.slice B' (o ++ [(⟨kd, n, 0, 0⟩ : PN)]).length bc', .string s, .int .i64 ((skipW s (nextW s a) : Nat)), .int .i64 ((nextW s (skipW s (nextW s a)) : Nat)), .int .i64 code] 60) ∧ s1 = rowl pnCells w0.heap.size 47 4 (.slice B' (o ++ [(⟨kd, n, 0, 0⟩ : PN)]).length bc') (o ++ [(⟨kd, n, 0, 0⟩ : PN)]) ∧ G = []) (e_call (vs := [.pointer _, .agg #[_, _, _, _]]) Tryd.func41 rfl (by kernel_rfl) rfl) rfl rfl rfl (fun w fr1 hfr hM => (polAdd5_any _ w rg _ _ s _ _ _ (o) fr1 hM (by omega) ((⟨kd, n, 0, 0⟩ : PN))).mono fun _ _ ⟨B', bc', h1, h2⟩ => ⟨_, _, _, [], h1, ⟨B', bc', rfl, rfl, rfl, rfl⟩, h2⟩) rfl rfl rfl ?_
          rintro _ _ _ _ ⟨B48, bc48, rfl, rfl, rfl, rfl⟩
          refine gop (y_assign (v := .int _ _) rfl) rfl rfl rfl ?_
          refine gop (y_assign (v := .bool _) rfl) rfl rfl rfl ?_
          refine gops_nil ?_
          refine hN11 _ _ ?_
          refine gT [box rg _, rowl _ _ _ _ _ _, fr] rfl ?_
          refine gfrom [(4, .int _ _), (5, .bool _)] ⟨rfl, rfl, trivial⟩ fun σ => ?_
          refine gret fun w1 hM => ?_
          refine ⟨_, res2 rfl (rt (v := .int _ _) rfl) (rt (v := .bool _) rfl), ?_⟩
          exact ⟨_, _, B48, bc48, _, _, _, rfl, pok_ok hR (by simp only [Tr.size]; omega) rfl hrs.next, weak_take (T' := [_, _, fr]) rfl _ hM⟩
      · 
        have hg30d := of_decide_eq_true hg30
        refine gop_off rfl rfl rfl rfl hg30 rfl rfl ?_
        refine gop_off rfl rfl rfl rfl hg30 rfl rfl ?_
        refine gop_off rfl rfl rfl rfl hg30 rfl rfl ?_
        refine gop (y_pick_t (v := .bool _) rfl hg30 rfl) rfl rfl rfl ?_
        refine gops_nil ?_
        refine hN8 _ _ ?_
        refine gfrom [(0, .pointer (some ⟨rg, 0, none⟩)), (1, .int _ _), (7, .int _ _), (35, .bool _)] ⟨rfl, rfl, rfl, rfl, trivial⟩ fun σ => ?_
        refine gcond (b := _) rfl (fun hc35 => ?_) (fun hc35 => ?_)
        · 
          have hR : numR s.size kd ts = .bad 3 a := by
            rw [numR, hV]
            show (if n < 0 ∨ mostN kd < n then Res.bad 3 (pos s.size ts) else _) = _
            rw [if_pos (by omega), hrs.pos]
          refine gseq fun N12 hN12 => ?_
          refine greg ?_
          refine gop (y_move (v := .pointer (some ⟨rg, 0, none⟩)) rfl) rfl rfl rfl ?_
          refine gop_does1 0 (fun v r G => v = .tuple #[.int .i64 0, .bool false] ∧ r = box rg (.cells #[.slice B o.length bc, .string s, .int .i64 ((a : Nat)), .int .i64 ((nextW s (a) : Nat)), .int .i64 3] 60) ∧ G = []) (e_call (vs := [.pointer (some ⟨rg, 0, none⟩), _]) Tryd.func32 rfl (by kernel_rfl) rfl) rfl (fun w fr1 hfr hM => (rdFail_any _ w rg _ _ _ s _ _ _ fr1 3 hM).mono fun _ _ ⟨h1, h2⟩ => ⟨_, _, [], h1, ⟨rfl, rfl, rfl⟩, h2⟩) rfl rfl rfl ?_
          rintro _ _ _ ⟨rfl, rfl, rfl⟩
          refine gop (y_extract (v := .int _ _) rfl rfl) rfl rfl rfl ?_
          refine gop (y_extract (v := .bool _) rfl rfl) rfl rfl rfl ?_
          refine gop (y_assign (v := .int _ _) rfl) rfl rfl rfl ?_
          refine gop (y_assign (v := .bool _) rfl) rfl rfl rfl ?_
          refine gops_nil ?_
          refine hN12 _ _ ?_
          refine gT [box rg _, rowl _ _ _ _ _ _, fr] rfl ?_
          refine gfrom [(4, .int _ _), (5, .bool _)] ⟨rfl, rfl, trivial⟩ fun σ => ?_
          refine gret fun w1 hM => ?_
          refine ⟨_, res2 rfl (rt (v := .int _ _) rfl) (rt (v := .bool _) rfl), ?_⟩
          exact ⟨_, _, B, bc, o, _, _, rfl, pok_bad hR (by omega), weak_take (T' := [_, _, fr]) rfl _ hM⟩
        · 
          cases hc35
  · 
    have hg18d := hg18
    refine gop_off rfl rfl rfl rfl hg18 rfl rfl ?_
    refine gop_off rfl rfl rfl rfl hg18 rfl rfl ?_
    refine gop_off rfl rfl rfl rfl hg18 rfl rfl ?_
    refine gop (y_pick_t (v := .bool _) rfl hg18 rfl) rfl rfl rfl ?_
    refine gops_nil ?_
    refine hN5 _ _ ?_
    refine gfrom [(0, .pointer (some ⟨rg, 0, none⟩)), (1, .int _ _), (7, .int _ _), (23, .bool _)] ⟨rfl, rfl, rfl, rfl, trivial⟩ fun σ => ?_
    refine gcond (b := _) rfl (fun hc23 => ?_) (fun hc23 => ?_)
    · 
      have hV : numV (hd ts) = none := by first | exact num_bad hAE (.inl (by assumption)) | exact num_bad hAE (.inr (fun h9 => by rw [h9] at hc23; simp at hc23))
      have hR : numR s.size kd ts = .bad 1 a := by
        rw [numR, hV]
        show Res.bad 1 (pos s.size ts) = _
        rw [hrs.pos]
      refine gseq fun N13 hN13 => ?_
      refine greg ?_
      refine gop (y_move (v := .pointer (some ⟨rg, 0, none⟩)) rfl) rfl rfl rfl ?_
      refine gop_does1 0 (fun v r G => v = .tuple #[.int .i64 0, .bool false] ∧ r = box rg (.cells #[.slice B o.length bc, .string s, .int .i64 ((a : Nat)), .int .i64 ((nextW s (a) : Nat)), .int .i64 1] 60) ∧ G = []) (e_call (vs := [.pointer (some ⟨rg, 0, none⟩), _]) Tryd.func32 rfl (by kernel_rfl) rfl) rfl (fun w fr1 hfr hM => (rdFail_any _ w rg _ _ _ s _ _ _ fr1 1 hM).mono fun _ _ ⟨h1, h2⟩ => ⟨_, _, [], h1, ⟨rfl, rfl, rfl⟩, h2⟩) rfl rfl rfl ?_
      rintro _ _ _ ⟨rfl, rfl, rfl⟩
      refine gop (y_extract (v := .int _ _) rfl rfl) rfl rfl rfl ?_
      refine gop (y_extract (v := .bool _) rfl rfl) rfl rfl rfl ?_
      refine gop (y_assign (v := .int _ _) rfl) rfl rfl rfl ?_
      refine gop (y_assign (v := .bool _) rfl) rfl rfl rfl ?_
      refine gops_nil ?_
      refine hN13 _ _ ?_
      refine gT [box rg _, rowl _ _ _ _ _ _, fr] rfl ?_
      refine gfrom [(4, .int _ _), (5, .bool _)] ⟨rfl, rfl, trivial⟩ fun σ => ?_
      refine gret fun w1 hM => ?_
      refine ⟨_, res2 rfl (rt (v := .int _ _) rfl) (rt (v := .bool _) rfl), ?_⟩
      exact ⟨_, _, B, bc, o, _, _, rfl, pok_bad hR (by omega), weak_take (T' := [_, _, fr]) rfl _ hM⟩
    · 
      cases hc23
end Go.Proofs.YtllblbkbglifjaaDoor
namespace Go.Proofs.YtllblbkbglifjaaDoor
open Go.RowKit Go.Cf
def ListH (w0 : World) (s : ByteArray) (rg n : Nat) : Prop := ∀ (lv : Nat) (vi : Int) (w : World) (B : Option Addr) (bc : Nat) (code : Int) (o : List PN) (fr : Reg) (a : Nat) (ts : List Tk), lv ≤ 2 → vi = (lv : Int) → 3 * ts.length + 3 ≤ n + lv → RS s a ts → o.length + ts.length ≤ 800 → Mem w0 [box rg (.cells #[.slice B o.length bc, .string s, .int .i64 ((a : Nat)), .int .i64 ((nextW s (a) : Nat)), .int .i64 code] 60), rowl pnCells w0.heap.size 47 4 (.slice B (o).length bc) (o), fr] w →
    Calls Tryd.prog 31 #[.pointer (some ⟨rg, 0, none⟩), .int .i64 vi] w fun e w' => ∃ x b B' bc' o' a' code', e = .returned (.tuple #[.int .i64 x, .bool b]) ∧ POK s (rd s.size n lv none ts) o code x b o' a' code' ∧ Mem w0 [box rg (.cells #[.slice B' o'.length bc', .string s, .int .i64 ((a' : Nat)), .int .i64 ((nextW s (a') : Nat)), .int .i64 code'] 60), rowl pnCells w0.heap.size 47 4 (.slice B' (o').length bc') (o'), fr] w'
def FacH (w0 : World) (s : ByteArray) (rg n : Nat) : Prop := ∀ (w : World) (B : Option Addr) (bc : Nat) (code : Int) (o : List PN) (fr : Reg) (a : Nat) (ts : List Tk), 3 * ts.length + 1 ≤ n → RS s a ts → o.length + ts.length ≤ 800 → Mem w0 [box rg (.cells #[.slice B o.length bc, .string s, .int .i64 ((a : Nat)), .int .i64 ((nextW s (a) : Nat)), .int .i64 code] 60), rowl pnCells w0.heap.size 47 4 (.slice B (o).length bc) (o), fr] w →
    Calls Tryd.prog 44 #[.pointer (some ⟨rg, 0, none⟩)] w fun e w' => ∃ x b B' bc' o' a' code', e = .returned (.tuple #[.int .i64 x, .bool b]) ∧ POK s (rd s.size n 2 none ts) o code x b o' a' code' ∧ Mem w0 [box rg (.cells #[.slice B' o'.length bc', .string s, .int .i64 ((a' : Nat)), .int .i64 ((nextW s (a') : Nat)), .int .i64 code'] 60), rowl pnCells w0.heap.size 47 4 (.slice B' (o').length bc') (o'), fr] w'
end Go.Proofs.YtllblbkbglifjaaDoor
