/- Own frame, plain models and walks, part 4 (texts of this claim put together). -/
import Derived.Test.YtllblbkbglifjaaDoorP30c
namespace Go.Proofs.YtllblbkbglifjaaDoor
open Go.RowKit Go.Cf
set_option maxRecDepth 10000
theorem bd47_0 (x1 : Int) : Tryd.prog.built 47 [(0, .int .i64 x1)] = some #[.int .i64 x1, .int .i64 0, .int .i64 0, .int .i64 0] := by kernel_rfl
set_option maxHeartbeats 16000000 in
theorem rdFactor_step (w0 : World) (s : ByteArray) (hs : s.size ≤ 200) (hL : LaidP w0) (rg n : Nat) (hF : FacH w0 s rg n) (hLi : ListH w0 s rg n) : FacH w0 s rg (n + 1) := by
  intro w B bc code o fr a ts hfu hrs hol hM0
  have hrd : rd s.size (n + 1) 2 none ts = fac s.size (rd s.size n 2 none) (rd s.size n 0 none) ts := by rw [rd, if_pos rfl]
  refine gcallsT Tryd.func44 rfl Tryd.ntmps44 (Nat.le_of_ble_eq_true rfl) hM0 ?_
  refine gfrom [(0, .pointer (some ⟨rg, 0, none⟩))] ⟨rfl, trivial⟩ fun σ => ?_
  refine gseq fun N1 hN1 => ?_
  refine greg ?_
  refine gop (y_assign (v := .int _ _) rfl) rfl rfl rfl ?_
  refine gop (y_assign (v := .bool _) rfl) rfl rfl rfl ?_
  refine gops_nil ?_
  refine hN1 _ _ ?_
  refine gfrom [(0, .pointer (some ⟨rg, 0, none⟩))] ⟨rfl, trivial⟩ fun σ => ?_
  refine gseq fun N2 hN2 => ?_
  refine gblock ?_
  refine gseq fun N3 hN3 => ?_
  refine greg ?_
  refine gop (y_move (v := .pointer (some ⟨rg, 0, none⟩)) rfl) rfl rfl rfl ?_
  refine gop_does1 0 (fun v r G => ∃ a' ts', v = .bool (decide (hd ts = wNot)) ∧ r = box rg (.cells #[.slice B (o).length bc, .string s, .int .i64 ((a' : Nat)), .int .i64 ((nextW s (a') : Nat)), .int .i64 code] 60) ∧ RS s a' ts' ∧ ts' = (if hd ts = wNot then ts.tail else ts) ∧ G = []) (e_call (vs := [.pointer (some ⟨rg, 0, none⟩), _]) Tryd.func45 rfl (by kernel_rfl) rfl) rfl (fun w fr1 hfr hM => (rdTake_any _ w rg _ _ _ s _ fr1 hs _ ts hrs _ hM).mono fun _ _ ⟨a', ts', h1, h2, h3, h4⟩ => ⟨_, _, [], h1, ⟨a', ts', rfl, rfl, h2, h3, rfl⟩, h4⟩) rfl rfl rfl ?_
  rintro _ _ _ ⟨a10, ts10, rfl, rfl, hrs10, hts10, rfl⟩
  refine gop (y_assign (v := .bool _) rfl) rfl rfl rfl ?_
  refine gops_nil ?_
  refine hN3 _ _ ?_
  refine gT [box rg _, rowl _ _ _ _ _ _, fr] rfl ?_
  refine gfrom [(0, .pointer (some ⟨rg, 0, none⟩)), (8, .bool _)] ⟨rfl, rfl, trivial⟩ fun σ => ?_
  refine gcond (b := _) rfl (fun hc8 => ?_) (fun hc8 => ?_)
  · 
    replace hc8 := of_decide_eq_true hc8
    have ht10 : ts10 = ts.tail := by rw [hts10, if_pos hc8]
    have hpl := hd_pos (ts := ts) (by rw [hc8]; decide)
    have htl10 : ts10.length + 1 = ts.length := by rw [ht10]; exact hpl
    refine gseq fun N4 hN4 => ?_
    refine greg ?_
    refine gop (y_move (v := .pointer (some ⟨rg, 0, none⟩)) rfl) rfl rfl rfl ?_
    refine gop_does2 0 1 (fun v r s1 G => ∃ x b B' bc' o' a' code', v = .tuple #[.int .i64 x, .bool b] ∧ r = box rg (.cells #[.slice B' o'.length bc', .string s, .int .i64 ((a' : Nat)), .int .i64 ((nextW s (a') : Nat)), .int .i64 code'] 60) ∧ s1 = rowl pnCells w0.heap.size 47 4 (.slice B' (o').length bc') (o') ∧ G = [] ∧ POK s (rd s.size n 2 none ts10) (o) code x b o' a' code') (e_call (vs := [.pointer (some ⟨rg, 0, none⟩)]) Tryd.func44 rfl (by kernel_rfl) rfl) rfl rfl rfl (fun w fr1 hfr hM => (hF w _ _ _ o fr1 _ ts10 (by omega) hrs10 (by omega) hM).mono fun _ _ ⟨x, b, B', bc', o', a', code', h1, h2, h3⟩ => ⟨_, _, _, [], h1, ⟨x, b, B', bc', o', a', code', rfl, rfl, rfl, rfl, h2⟩, h3⟩) rfl rfl rfl ?_
    rintro _ _ _ _ ⟨x13, b13, B13, bc13, o13, a13, code13, rfl, rfl, rfl, rfl, hp13⟩
    refine gop (y_move (v := .tuple #[.int _ _, .bool _]) rfl) rfl rfl rfl ?_
    refine gop (y_extract (v := .int _ _) rfl rfl) rfl rfl rfl ?_
    refine gop (y_extract (v := .bool _) rfl rfl) rfl rfl rfl ?_
    refine gop (y_assign (v := .int _ _) rfl) rfl rfl rfl ?_
    refine gop (y_assign (v := .bool _) rfl) rfl rfl rfl ?_
    refine gops_nil ?_
    refine hN4 _ _ ?_
    refine gT [box rg _, rowl _ _ _ _ _ _, fr] rfl ?_
    refine gfrom [(0, .pointer (some ⟨rg, 0, none⟩)), (4, .int _ _), (5, .bool _)] ⟨rfl, rfl, rfl, trivial⟩ fun σ => ?_
    refine gseq fun N5 hN5 => ?_
    refine gseq fun N6 hN6 => ?_
    refine greg ?_
    refine gop (y_move (v := .bool _) rfl) rfl rfl rfl ?_
    refine gop (y_not rfl) rfl rfl rfl ?_
    refine gops_nil ?_
    refine hN6 _ _ ?_
    refine gfrom [(0, .pointer (some ⟨rg, 0, none⟩)), (4, .int _ _), (17, .bool _)] ⟨rfl, rfl, rfl, trivial⟩ fun σ => ?_
    refine gcond (b := _) rfl (fun hc17 => ?_) (fun hc17 => ?_)
    · 
      replace hc17 := not_t hc17
      have hb13 : b13 = false := by simpa using hc17
      obtain ⟨hR13, ho13⟩ := pok_no hp13 hb13
      refine gseq fun N7 hN7 => ?_
      refine greg ?_
      refine gop (y_assign (v := .int _ _) rfl) rfl rfl rfl ?_
      refine gop (y_assign (v := .bool _) rfl) rfl rfl rfl ?_
      refine gops_nil ?_
      refine hN7 _ _ ?_
      refine gfrom [(2, .int _ _), (3, .bool _)] ⟨rfl, rfl, trivial⟩ fun σ => ?_
      refine gret fun w1 hM => ?_
      refine ⟨_, res2 rfl (rt (v := .int _ _) rfl) (rt (v := .bool _) rfl), ?_⟩
      have hR : rd s.size (n + 1) 2 none ts = .bad code13 a13 := by rw [hrd, fac, if_pos hc8, ← ht10, hR13]; rfl
      exact ⟨_, _, _, _, _, _, _, rfl, pok_bad hR ho13, weak_take (T' := [_, _, fr]) rfl _ hM⟩
    · 
      replace hc17 := not_f hc17
      obtain ⟨t13, us13, hR13, hx13, ho13, hrt13, hcd13⟩ := pok_yes hp13 (by first | assumption | simpa using hc17)
      have hsz13 : t13.size + us13.length ≤ ts10.length := (rd_ok s.size n 2 none ts10 t13 us13 (fun _ h => by cases h) hR13).2
      subst hx13
      subst ho13
      obtain rfl : code = code13 := hcd13.symm
      refine gskip ?_
      refine hN5 _ _ ?_
      refine gfrom [(0, .pointer (some ⟨rg, 0, none⟩)), (4, .int _ _)] ⟨rfl, rfl, trivial⟩ fun σ => ?_
      refine gseq fun N8 hN8 => ?_
      refine greg ?_
      refine gop (y_move (v := .pointer (some ⟨rg, 0, none⟩)) rfl) rfl rfl rfl ?_
      refine gop (y_nilCheck rfl) rfl rfl rfl ?_
      refine gop (y_fieldAddr_box fa60_0 rfl) rfl rfl rfl ?_
      refine gop (y_move (v := .int _ _) rfl) rfl rfl rfl ?_
      refine gop (y_build (vs := [(0, _), (2, .int _ _)]) (cells := #[_, .int .i64 0, _, .int .i64 0]) rfl (bd47_0_2 _ _)) rfl rfl rfl ?_
      refine gop_does2 0 1 (fun v r s1 G => ∃ B' bc', v = .int .i64 ((o ++ post t13 o.length).length : Nat) ∧ r = box rg (.cells #[.slice B' (o ++ post t13 o.length ++ [(⟨5, 0, ((o.length + t13.size : Nat) : Int) - 1, 0⟩ : PN)]).length bc', .string s, .int .i64 ((a13 : Nat)), .int .i64 ((nextW s (a13) : Nat)), .int .i64 code] 60) ∧ s1 = rowl pnCells w0.heap.size 47 4 (.slice B' (o ++ post t13 o.length ++ [(⟨5, 0, ((o.length + t13.size : Nat) : Int) - 1, 0⟩ : PN)]).length bc') (o ++ post t13 o.length ++ [(⟨5, 0, ((o.length + t13.size : Nat) : Int) - 1, 0⟩ : PN)]) ∧ G = []) (e_call (vs := [.pointer _, .agg #[_, _, _, _]]) Tryd.func41 rfl (by kernel_rfl) rfl) rfl rfl rfl (fun w fr1 hfr hM => (polAdd5_any _ w rg _ _ s _ _ _ (o ++ post t13 o.length) fr1 hM (by rw [app_len]; omega) ((⟨5, 0, ((o.length + t13.size : Nat) : Int) - 1, 0⟩ : PN))).mono fun _ _ ⟨B', bc', h1, h2⟩ => ⟨_, _, _, [], h1, ⟨B', bc', rfl, rfl, rfl, rfl⟩, h2⟩) rfl rfl rfl ?_
      rintro _ _ _ _ ⟨B23, bc23, rfl, rfl, rfl, rfl⟩
      refine gop (y_assign (v := .int _ _) rfl) rfl rfl rfl ?_
      refine gop (y_assign (v := .bool _) rfl) rfl rfl rfl ?_
      refine gops_nil ?_
      refine hN8 _ _ ?_
      refine gT [box rg _, rowl _ _ _ _ _ _, fr] rfl ?_
      refine gfrom [(2, .int _ _), (3, .bool _)] ⟨rfl, rfl, trivial⟩ fun σ => ?_
      refine gret fun w1 hM => ?_
      refine ⟨_, res2 rfl (rt (v := .int _ _) rfl) (rt (v := .bool _) rfl), ?_⟩
      have hR : rd s.size (n + 1) 2 none ts = .ok (.neg t13) us13 := by rw [hrd, fac, if_pos hc8, ← ht10, hR13]; rfl
      exact ⟨_, _, B23, bc23, _, _, _, rfl, pok_ok hR (by rw [app_len, size_neg]; omega) (post_neg_app o t13) hrt13, weak_take (T' := [_, _, fr]) rfl _ hM⟩
  · 
    replace hc8 := of_decide_eq_false hc8
    obtain rfl : ts = ts10 := by rw [hts10, if_neg hc8]
    obtain rfl : a = a10 := by rw [← hrs.pos, ← hrs10.pos]
    refine gseq fun N9 hN9 => ?_
    refine greg ?_
    refine gop (y_move (v := .pointer (some ⟨rg, 0, none⟩)) rfl) rfl rfl rfl ?_
    refine gop_does1 0 (fun v r G => ∃ a' ts', v = .bool (decide (hd ts = wL)) ∧ r = box rg (.cells #[.slice B (o).length bc, .string s, .int .i64 ((a' : Nat)), .int .i64 ((nextW s (a') : Nat)), .int .i64 code] 60) ∧ RS s a' ts' ∧ ts' = (if hd ts = wL then ts.tail else ts) ∧ G = []) (e_call (vs := [.pointer (some ⟨rg, 0, none⟩), _]) Tryd.func45 rfl (by kernel_rfl) rfl) rfl (fun w fr1 hfr hM => (rdTake_any _ w rg _ _ _ s _ fr1 hs _ ts hrs _ hM).mono fun _ _ ⟨a', ts', h1, h2, h3, h4⟩ => ⟨_, _, [], h1, ⟨a', ts', rfl, rfl, h2, h3, rfl⟩, h4⟩) rfl rfl rfl ?_
    rintro _ _ _ ⟨a26, ts26, rfl, rfl, hrs26, hts26, rfl⟩
    refine gop (y_assign (v := .bool _) rfl) rfl rfl rfl ?_
    refine gops_nil ?_
    refine hN9 _ _ ?_
    refine gT [box rg _, rowl _ _ _ _ _ _, fr] rfl ?_
    refine gfrom [(0, .pointer (some ⟨rg, 0, none⟩)), (24, .bool _)] ⟨rfl, rfl, trivial⟩ fun σ => ?_
    refine gcond (b := _) rfl (fun hc24 => ?_) (fun hc24 => ?_)
    · 
      replace hc24 := of_decide_eq_true hc24
      have ht26 : ts26 = ts.tail := by rw [hts26, if_pos hc24]
      have hpl := hd_pos (ts := ts) (by rw [hc24]; decide)
      have htl26 : ts26.length + 1 = ts.length := by rw [ht26]; exact hpl
      refine gseq fun N10 hN10 => ?_
      refine greg ?_
      refine gop (y_move (v := .pointer (some ⟨rg, 0, none⟩)) rfl) rfl rfl rfl ?_
      refine gop_does2 0 1 (fun v r s1 G => ∃ x b B' bc' o' a' code', v = .tuple #[.int .i64 x, .bool b] ∧ r = box rg (.cells #[.slice B' o'.length bc', .string s, .int .i64 ((a' : Nat)), .int .i64 ((nextW s (a') : Nat)), .int .i64 code'] 60) ∧ s1 = rowl pnCells w0.heap.size 47 4 (.slice B' (o').length bc') (o') ∧ G = [] ∧ POK s (rd s.size n 0 none ts26) (o) code x b o' a' code') (e_call (vs := [.pointer (some ⟨rg, 0, none⟩), _]) Tryd.func31 rfl (by kernel_rfl) rfl) rfl rfl rfl (fun w fr1 hfr hM => (hLi 0 _ w _ _ _ o fr1 _ ts26 (by omega) rfl (by omega) hrs26 (by omega) hM).mono fun _ _ ⟨x, b, B', bc', o', a', code', h1, h2, h3⟩ => ⟨_, _, _, [], h1, ⟨x, b, B', bc', o', a', code', rfl, rfl, rfl, rfl, h2⟩, h3⟩) rfl rfl rfl ?_
      rintro _ _ _ _ ⟨x29, b29, B29, bc29, o29, a29, code29, rfl, rfl, rfl, rfl, hp29⟩
      refine gop (y_move (v := .tuple #[.int _ _, .bool _]) rfl) rfl rfl rfl ?_
      refine gop (y_extract (v := .int _ _) rfl rfl) rfl rfl rfl ?_
      refine gop (y_extract (v := .bool _) rfl rfl) rfl rfl rfl ?_
      refine gop (y_assign (v := .int _ _) rfl) rfl rfl rfl ?_
      refine gop (y_assign (v := .bool _) rfl) rfl rfl rfl ?_
      refine gops_nil ?_
      refine hN10 _ _ ?_
      refine gT [box rg _, rowl _ _ _ _ _ _, fr] rfl ?_
      refine gfrom [(0, .pointer (some ⟨rg, 0, none⟩)), (6, .int _ _), (7, .bool _)] ⟨rfl, rfl, rfl, trivial⟩ fun σ => ?_
      refine gseq fun N11 hN11 => ?_
      refine gseq fun N12 hN12 => ?_
      refine greg ?_
      refine gop (y_move (v := .bool _) rfl) rfl rfl rfl ?_
      refine gop (y_move (v := .bool _) rfl) rfl rfl rfl ?_
      refine gop_if (want := true) rfl rfl rfl rfl rfl rfl (fun hg33 => ?_) (fun hg33 => ?_)
      · 
        have hg33d := hg33
        obtain ⟨t29, us29, hR29, hx29, ho29, hrt29, hcd29⟩ := pok_yes hp29 (by first | assumption | simpa using hg33d)
        have hsz29 : t29.size + us29.length ≤ ts26.length := (rd_ok s.size n 0 none ts26 t29 us29 (fun _ h => by cases h) hR29).2
        subst hx29
        subst ho29
        obtain rfl : code = code29 := hcd29.symm
        refine gop (y_bare (y_move (v := .pointer (some ⟨rg, 0, none⟩)) rfl)) rfl rfl rfl ?_
        refine gop_on rfl rfl rfl rfl hg33 ?_
        refine gop_does1 0 (fun v r G => ∃ a' ts', v = .bool (decide (hd us29 = wR)) ∧ r = box rg (.cells #[.slice B29 (o ++ post t29 o.length).length bc29, .string s, .int .i64 ((a' : Nat)), .int .i64 ((nextW s (a') : Nat)), .int .i64 code] 60) ∧ RS s a' ts' ∧ ts' = (if hd us29 = wR then us29.tail else us29) ∧ G = []) (e_call (vs := [.pointer (some ⟨rg, 0, none⟩), _]) Tryd.func45 rfl (by kernel_rfl) rfl) rfl (fun w fr1 hfr hM => (rdTake_any _ w rg _ _ _ s _ fr1 hs _ us29 hrt29 _ hM).mono fun _ _ ⟨a', ts', h1, h2, h3, h4⟩ => ⟨_, _, [], h1, ⟨a', ts', rfl, rfl, h2, h3, rfl⟩, h4⟩) rfl rfl rfl ?_
        rintro _ _ _ ⟨a35, ts35, rfl, rfl, hrs35, hts35, rfl⟩
        refine gop_on rfl rfl rfl rfl hg33 ?_
        refine gop (y_bare (y_not rfl)) rfl rfl rfl ?_
        refine gop (y_pick_t (v := .bool _) rfl hg33 rfl) rfl rfl rfl ?_
        refine gops_nil ?_
        refine hN12 _ _ ?_
        refine gT [box rg _, rowl _ _ _ _ _ _, fr] rfl ?_
        refine gfrom [(0, .pointer (some ⟨rg, 0, none⟩)), (6, .int _ _), (7, .bool _), (37, .bool _)] ⟨rfl, rfl, rfl, rfl, trivial⟩ fun σ => ?_
        refine gcond (b := _) rfl (fun hc37 => ?_) (fun hc37 => ?_)
        · 
          replace hc37 := not_t hc37
          have hw : ¬ hd us29 = wR := by simpa using hc37
          obtain rfl : us29 = ts35 := by rw [hts35, if_neg hw]
          obtain rfl : a29 = a35 := by rw [← hrt29.pos, ← hrs35.pos]
          refine gseq fun N13 hN13 => ?_
          refine greg ?_
          refine gop (y_move (v := .pointer (some ⟨rg, 0, none⟩)) rfl) rfl rfl rfl ?_
          refine gop_does1 0 (fun v r G => v = .tuple #[.int .i64 0, .bool false] ∧ r = box rg (.cells #[.slice B29 (o ++ post t29 o.length).length bc29, .string s, .int .i64 ((a29 : Nat)), .int .i64 ((nextW s (a29) : Nat)), .int .i64 1] 60) ∧ G = []) (e_call (vs := [.pointer (some ⟨rg, 0, none⟩), _]) Tryd.func32 rfl (by kernel_rfl) rfl) rfl (fun w fr1 hfr hM => (rdFail_any _ w rg _ _ _ s _ _ _ fr1 1 hM).mono fun _ _ ⟨h1, h2⟩ => ⟨_, _, [], h1, ⟨rfl, rfl, rfl⟩, h2⟩) rfl rfl rfl ?_
          rintro _ _ _ ⟨rfl, rfl, rfl⟩
          refine gop (y_extract (v := .int _ _) rfl rfl) rfl rfl rfl ?_
          refine gop (y_extract (v := .bool _) rfl rfl) rfl rfl rfl ?_
          refine gop (y_assign (v := .int _ _) rfl) rfl rfl rfl ?_
          refine gop (y_assign (v := .bool _) rfl) rfl rfl rfl ?_
          refine gops_nil ?_
          refine hN13 _ _ ?_
          refine gT [box rg _, rowl _ _ _ _ _ _, fr] rfl ?_
          refine gfrom [(2, .int _ _), (3, .bool _)] ⟨rfl, rfl, trivial⟩ fun σ => ?_
          refine gret fun w1 hM => ?_
          refine ⟨_, res2 rfl (rt (v := .int _ _) rfl) (rt (v := .bool _) rfl), ?_⟩
          have hR : rd s.size (n + 1) 2 none ts = .bad 1 a29 := by
            rw [hrd, fac, if_neg hc8, if_pos hc24, ← ht26, hR29]
            show (if hd us29 = wR then _ else Res.bad 1 (pos s.size us29)) = _
            rw [if_neg hw, hrt29.pos]
          exact ⟨_, _, _, _, _, _, _, rfl, pok_bad hR (by rw [app_len]; omega), weak_take (T' := [_, _, fr]) rfl _ hM⟩
        · 
          replace hc37 := not_f hc37
          refine gskip ?_
          refine hN11 _ _ ?_
          refine gfrom [(6, .int _ _), (7, .bool _)] ⟨rfl, rfl, trivial⟩ fun σ => ?_
          refine gseq fun N14 hN14 => ?_
          refine greg ?_
          refine gop (y_move (v := .int _ _) rfl) rfl rfl rfl ?_
          refine gop (y_move (v := .bool _) rfl) rfl rfl rfl ?_
          refine gop (y_assign (v := .int _ _) rfl) rfl rfl rfl ?_
          refine gop (y_assign (v := .bool _) rfl) rfl rfl rfl ?_
          refine gops_nil ?_
          refine hN14 _ _ ?_
          refine gfrom [(2, .int _ _), (3, .bool _)] ⟨rfl, rfl, trivial⟩ fun σ => ?_
          refine gret fun w1 hM => ?_
          refine ⟨_, res2 rfl (rt (v := .int _ _) rfl) (rt (v := .bool _) rfl), ?_⟩
          first
          | (have hw : hd us29 = wR := by simpa using hc37
             have hR : rd s.size (n + 1) 2 none ts = .ok t29 ts35 := by
               rw [hrd, fac, if_neg hc8, if_pos hc24, ← ht26, hR29]
               show (if hd us29 = wR then Res.ok t29 us29.tail else _) = _
               rw [if_pos hw, hts35, if_pos hw]
             exact ⟨_, _, B29, bc29, _, _, _, rfl, pok_ok2 (by assumption) hR rfl rfl hrs35, weak_take (T' := [_, _, fr]) rfl _ hM⟩)
          | (obtain ⟨hR29, ho29⟩ := pok_no hp29 (by assumption)
             have hR : rd s.size (n + 1) 2 none ts = .bad code29 a29 := by rw [hrd, fac, if_neg hc8, if_pos hc24, ← ht26, hR29]; rfl
             exact ⟨_, _, _, _, _, _, _, rfl, pok_bad2 (by assumption) hR ho29, weak_take (T' := [_, _, fr]) rfl _ hM⟩)
      · 
        have hg33d := hg33
        refine gop_off rfl rfl rfl rfl hg33 rfl rfl ?_
        refine gop_off rfl rfl rfl rfl hg33 rfl rfl ?_
        refine gop (y_pick_f (v := .bool _) rfl hg33 rfl) rfl rfl rfl ?_
        refine gops_nil ?_
        refine hN12 _ _ ?_
        refine gfrom [(0, .pointer (some ⟨rg, 0, none⟩)), (6, .int _ _), (7, .bool _), (37, .bool _)] ⟨rfl, rfl, rfl, rfl, trivial⟩ fun σ => ?_
        refine gcond (b := _) rfl (fun hc37 => ?_) (fun hc37 => ?_)
        · 
          cases hc37
        · 
          refine gskip ?_
          refine hN11 _ _ ?_
          refine gfrom [(6, .int _ _), (7, .bool _)] ⟨rfl, rfl, trivial⟩ fun σ => ?_
          refine gseq fun N15 hN15 => ?_
          refine greg ?_
          refine gop (y_move (v := .int _ _) rfl) rfl rfl rfl ?_
          refine gop (y_move (v := .bool _) rfl) rfl rfl rfl ?_
          refine gop (y_assign (v := .int _ _) rfl) rfl rfl rfl ?_
          refine gop (y_assign (v := .bool _) rfl) rfl rfl rfl ?_
          refine gops_nil ?_
          refine hN15 _ _ ?_
          refine gfrom [(2, .int _ _), (3, .bool _)] ⟨rfl, rfl, trivial⟩ fun σ => ?_
          refine gret fun w1 hM => ?_
          refine ⟨_, res2 rfl (rt (v := .int _ _) rfl) (rt (v := .bool _) rfl), ?_⟩
          first
          | (have hw : hd us29 = wR := by simpa using hc37
             have hR : rd s.size (n + 1) 2 none ts = .ok t29 ts35 := by
               rw [hrd, fac, if_neg hc8, if_pos hc24, ← ht26, hR29]
               show (if hd us29 = wR then Res.ok t29 us29.tail else _) = _
               rw [if_pos hw, hts35, if_pos hw]
             exact ⟨_, _, B29, bc29, _, _, _, rfl, pok_ok2 (by assumption) hR rfl rfl hrs35, weak_take (T' := [_, _, fr]) rfl _ hM⟩)
          | (obtain ⟨hR29, ho29⟩ := pok_no hp29 (by assumption)
             have hR : rd s.size (n + 1) 2 none ts = .bad code29 a29 := by rw [hrd, fac, if_neg hc8, if_pos hc24, ← ht26, hR29]; rfl
             exact ⟨_, _, _, _, _, _, _, rfl, pok_bad2 (by assumption) hR ho29, weak_take (T' := [_, _, fr]) rfl _ hM⟩)
    · 
      replace hc24 := of_decide_eq_false hc24
      obtain rfl : ts = ts26 := by rw [hts26, if_neg hc24]
      obtain rfl : a = a26 := by rw [← hrs.pos, ← hrs26.pos]
      refine gseq fun N16 hN16 => ?_
      refine greg ?_
      refine gop (y_move (v := .pointer (some ⟨rg, 0, none⟩)) rfl) rfl rfl rfl ?_
      refine gop_does1 0 (fun v r G => ∃ a' ts', v = .bool (decide (hd ts = wScore)) ∧ r = box rg (.cells #[.slice B (o).length bc, .string s, .int .i64 ((a' : Nat)), .int .i64 ((nextW s (a') : Nat)), .int .i64 code] 60) ∧ RS s a' ts' ∧ ts' = (if hd ts = wScore then ts.tail else ts) ∧ G = []) (e_call (vs := [.pointer (some ⟨rg, 0, none⟩), _]) Tryd.func45 rfl (by kernel_rfl) rfl) rfl (fun w fr1 hfr hM => (rdTake_any _ w rg _ _ _ s _ fr1 hs _ ts hrs _ hM).mono fun _ _ ⟨a', ts', h1, h2, h3, h4⟩ => ⟨_, _, [], h1, ⟨a', ts', rfl, rfl, h2, h3, rfl⟩, h4⟩) rfl rfl rfl ?_
      rintro _ _ _ ⟨a46, ts46, rfl, rfl, hrs46, hts46, rfl⟩
      refine gop (y_assign (v := .bool _) rfl) rfl rfl rfl ?_
      refine gops_nil ?_
      refine hN16 _ _ ?_
      refine gT [box rg _, rowl _ _ _ _ _ _, fr] rfl ?_
      refine gfrom [(0, .pointer (some ⟨rg, 0, none⟩)), (44, .bool _)] ⟨rfl, rfl, trivial⟩ fun σ => ?_
      refine gcond (b := _) rfl (fun hc44 => ?_) (fun hc44 => ?_)
      · 
        replace hc44 := of_decide_eq_true hc44
        have ht46 : ts46 = ts.tail := by rw [hts46, if_pos hc44]
        have hpl := hd_pos (ts := ts) (by rw [hc44]; decide)
        have htl46 : ts46.length + 1 = ts.length := by rw [ht46]; exact hpl
        refine gseq fun N17 hN17 => ?_
        refine greg ?_
        refine gop (y_move (v := .pointer (some ⟨rg, 0, none⟩)) rfl) rfl rfl rfl ?_
        refine gop_does2 0 1 (fun v r s1 G => ∃ x b B' bc' o' a' code', v = .tuple #[.int .i64 x, .bool b] ∧ r = box rg (.cells #[.slice B' o'.length bc', .string s, .int .i64 ((a' : Nat)), .int .i64 ((nextW s (a') : Nat)), .int .i64 code'] 60) ∧ s1 = rowl pnCells w0.heap.size 47 4 (.slice B' (o').length bc') (o') ∧ G = [] ∧ POK s (numR s.size 1 ts46) (o) code x b o' a' code') (e_call (vs := [.pointer (some ⟨rg, 0, none⟩), _]) Tryd.func48 rfl (by kernel_rfl) rfl) rfl rfl rfl (fun w fr1 hfr hM => (rdNumber_any _ w rg _ _ s _ o fr1 hs _ ts46 hrs46 _ (by omega) hL hM).mono fun _ _ ⟨x, b, B', bc', o', a', code', h1, h2, h3⟩ => ⟨_, _, _, [], h1, ⟨x, b, B', bc', o', a', code', rfl, rfl, rfl, rfl, h2⟩, h3⟩) rfl rfl rfl ?_
        rintro _ _ _ _ ⟨x48, b48, B48, bc48, o48, a48, code48, rfl, rfl, rfl, rfl, hp48⟩
        refine gop (y_extract (v := .int _ _) rfl rfl) rfl rfl rfl ?_
        refine gop (y_extract (v := .bool _) rfl rfl) rfl rfl rfl ?_
        refine gop (y_assign (v := .int _ _) rfl) rfl rfl rfl ?_
        refine gop (y_assign (v := .bool _) rfl) rfl rfl rfl ?_
        refine gops_nil ?_
        refine hN17 _ _ ?_
        refine gT [box rg _, rowl _ _ _ _ _ _, fr] rfl ?_
        refine gfrom [(2, .int _ _), (3, .bool _)] ⟨rfl, rfl, trivial⟩ fun σ => ?_
        refine gret fun w1 hM => ?_
        refine ⟨_, res2 rfl (rt (v := .int _ _) rfl) (rt (v := .bool _) rfl), ?_⟩
        have hR : rd s.size (n + 1) 2 none ts = numR s.size 1 ts46 := by rw [hrd, fac, if_neg hc8, if_neg hc24, if_pos hc44, ht46]
        exact ⟨x48, b48, B48, bc48, o48, a48, code48, rfl, by rw [hR]; exact hp48, weak_take (T' := [_, _, fr]) rfl _ hM⟩
      · 
        replace hc44 := of_decide_eq_false hc44
        obtain rfl : ts = ts46 := by rw [hts46, if_neg hc44]
        obtain rfl : a = a46 := by rw [← hrs.pos, ← hrs46.pos]
        refine gseq fun N18 hN18 => ?_
        refine greg ?_
        refine gop (y_move (v := .pointer (some ⟨rg, 0, none⟩)) rfl) rfl rfl rfl ?_
        refine gop_does1 0 (fun v r G => ∃ a' ts', v = .bool (decide (hd ts = wUser)) ∧ r = box rg (.cells #[.slice B (o).length bc, .string s, .int .i64 ((a' : Nat)), .int .i64 ((nextW s (a') : Nat)), .int .i64 code] 60) ∧ RS s a' ts' ∧ ts' = (if hd ts = wUser then ts.tail else ts) ∧ G = []) (e_call (vs := [.pointer (some ⟨rg, 0, none⟩), _]) Tryd.func45 rfl (by kernel_rfl) rfl) rfl (fun w fr1 hfr hM => (rdTake_any _ w rg _ _ _ s _ fr1 hs _ ts hrs _ hM).mono fun _ _ ⟨a', ts', h1, h2, h3, h4⟩ => ⟨_, _, [], h1, ⟨a', ts', rfl, rfl, h2, h3, rfl⟩, h4⟩) rfl rfl rfl ?_
        rintro _ _ _ ⟨a53, ts53, rfl, rfl, hrs53, hts53, rfl⟩
        refine gop (y_assign (v := .bool _) rfl) rfl rfl rfl ?_
        refine gops_nil ?_
        refine hN18 _ _ ?_
        refine gT [box rg _, rowl _ _ _ _ _ _, fr] rfl ?_
        refine gfrom [(0, .pointer (some ⟨rg, 0, none⟩)), (51, .bool _)] ⟨rfl, rfl, trivial⟩ fun σ => ?_
        refine gcond (b := _) rfl (fun hc51 => ?_) (fun hc51 => ?_)
        · 
          replace hc51 := of_decide_eq_true hc51
          have ht53 : ts53 = ts.tail := by rw [hts53, if_pos hc51]
          have hpl := hd_pos (ts := ts) (by rw [hc51]; decide)
          have htl53 : ts53.length + 1 = ts.length := by rw [ht53]; exact hpl
          refine gseq fun N19 hN19 => ?_
          refine greg ?_
          refine gop (y_move (v := .pointer (some ⟨rg, 0, none⟩)) rfl) rfl rfl rfl ?_
          refine gop_does2 0 1 (fun v r s1 G => ∃ x b B' bc' o' a' code', v = .tuple #[.int .i64 x, .bool b] ∧ r = box rg (.cells #[.slice B' o'.length bc', .string s, .int .i64 ((a' : Nat)), .int .i64 ((nextW s (a') : Nat)), .int .i64 code'] 60) ∧ s1 = rowl pnCells w0.heap.size 47 4 (.slice B' (o').length bc') (o') ∧ G = [] ∧ POK s (numR s.size 4 ts53) (o) code x b o' a' code') (e_call (vs := [.pointer (some ⟨rg, 0, none⟩), _]) Tryd.func48 rfl (by kernel_rfl) rfl) rfl rfl rfl (fun w fr1 hfr hM => (rdNumber_any _ w rg _ _ s _ o fr1 hs _ ts53 hrs53 _ (by omega) hL hM).mono fun _ _ ⟨x, b, B', bc', o', a', code', h1, h2, h3⟩ => ⟨_, _, _, [], h1, ⟨x, b, B', bc', o', a', code', rfl, rfl, rfl, rfl, h2⟩, h3⟩) rfl rfl rfl ?_
          rintro _ _ _ _ ⟨x55, b55, B55, bc55, o55, a55, code55, rfl, rfl, rfl, rfl, hp55⟩
          refine gop (y_extract (v := .int _ _) rfl rfl) rfl rfl rfl ?_
          refine gop (y_extract (v := .bool _) rfl rfl) rfl rfl rfl ?_
          refine gop (y_assign (v := .int _ _) rfl) rfl rfl rfl ?_
          refine gop (y_assign (v := .bool _) rfl) rfl rfl rfl ?_
          refine gops_nil ?_
          refine hN19 _ _ ?_
          refine gT [box rg _, rowl _ _ _ _ _ _, fr] rfl ?_
          refine gfrom [(2, .int _ _), (3, .bool _)] ⟨rfl, rfl, trivial⟩ fun σ => ?_
          refine gret fun w1 hM => ?_
          refine ⟨_, res2 rfl (rt (v := .int _ _) rfl) (rt (v := .bool _) rfl), ?_⟩
          have hR : rd s.size (n + 1) 2 none ts = numR s.size 4 ts53 := by rw [hrd, fac, if_neg hc8, if_neg hc24, if_neg hc44, if_pos hc51, ht53]
          exact ⟨x55, b55, B55, bc55, o55, a55, code55, rfl, by rw [hR]; exact hp55, weak_take (T' := [_, _, fr]) rfl _ hM⟩
        · 
          replace hc51 := of_decide_eq_false hc51
          obtain rfl : ts = ts53 := by rw [hts53, if_neg hc51]
          obtain rfl : a = a53 := by rw [← hrs.pos, ← hrs53.pos]
          refine gseq fun N20 hN20 => ?_
          refine greg ?_
          refine gop (y_move (v := .pointer (some ⟨rg, 0, none⟩)) rfl) rfl rfl rfl ?_
          refine gop_does1 0 (fun v r G => ∃ a' ts', v = .bool (decide (hd ts = wOwners)) ∧ r = box rg (.cells #[.slice B (o).length bc, .string s, .int .i64 ((a' : Nat)), .int .i64 ((nextW s (a') : Nat)), .int .i64 code] 60) ∧ RS s a' ts' ∧ ts' = (if hd ts = wOwners then ts.tail else ts) ∧ G = []) (e_call (vs := [.pointer (some ⟨rg, 0, none⟩), _]) Tryd.func45 rfl (by kernel_rfl) rfl) rfl (fun w fr1 hfr hM => (rdTake_any _ w rg _ _ _ s _ fr1 hs _ ts hrs _ hM).mono fun _ _ ⟨a', ts', h1, h2, h3, h4⟩ => ⟨_, _, [], h1, ⟨a', ts', rfl, rfl, h2, h3, rfl⟩, h4⟩) rfl rfl rfl ?_
          rintro _ _ _ ⟨a60, ts60, rfl, rfl, hrs60, hts60, rfl⟩
          refine gop (y_assign (v := .bool _) rfl) rfl rfl rfl ?_
          refine gops_nil ?_
          refine hN20 _ _ ?_
          refine gT [box rg _, rowl _ _ _ _ _ _, fr] rfl ?_
          refine gfrom [(0, .pointer (some ⟨rg, 0, none⟩)), (58, .bool _)] ⟨rfl, rfl, trivial⟩ fun σ => ?_
          refine gcond (b := _) rfl (fun hc58 => ?_) (fun hc58 => ?_)
          · 
            replace hc58 := of_decide_eq_true hc58
            have ht60 : ts60 = ts.tail := by rw [hts60, if_pos hc58]
            have hpl := hd_pos (ts := ts) (by rw [hc58]; decide)
            have htl60 : ts60.length + 1 = ts.length := by rw [ht60]; exact hpl
            refine gseq fun N21 hN21 => ?_
            refine greg ?_
            refine gop (y_move (v := .pointer (some ⟨rg, 0, none⟩)) rfl) rfl rfl rfl ?_
            refine gop (y_nilCheck rfl) rfl rfl rfl ?_
            refine gop (y_fieldAddr_box fa60_0 rfl) rfl rfl rfl ?_
            refine gop (y_build (vs := [(0, _)]) (cells := #[_, .int .i64 0, .int .i64 0, .int .i64 0]) rfl (bd47_0 _)) rfl rfl rfl ?_
            refine gop_does2 0 1 (fun v r s1 G => ∃ B' bc', v = .int .i64 ((o).length : Nat) ∧ r = box rg (.cells #[.slice B' (o ++ [(⟨2, 0, 0, 0⟩ : PN)]).length bc', .string s, .int .i64 ((a60 : Nat)), .int .i64 ((nextW s (a60) : Nat)), .int .i64 code] 60) ∧ s1 = rowl pnCells w0.heap.size 47 4 (.slice B' (o ++ [(⟨2, 0, 0, 0⟩ : PN)]).length bc') (o ++ [(⟨2, 0, 0, 0⟩ : PN)]) ∧ G = []) (e_call (vs := [.pointer _, .agg #[_, _, _, _]]) Tryd.func41 rfl (by kernel_rfl) rfl) rfl rfl rfl (fun w fr1 hfr hM => (polAdd5_any _ w rg _ _ s _ _ _ (o) fr1 hM (by omega) ((⟨2, 0, 0, 0⟩ : PN))).mono fun _ _ ⟨B', bc', h1, h2⟩ => ⟨_, _, _, [], h1, ⟨B', bc', rfl, rfl, rfl, rfl⟩, h2⟩) rfl rfl rfl ?_
            rintro _ _ _ _ ⟨B65, bc65, rfl, rfl, rfl, rfl⟩
            refine gop (y_assign (v := .int _ _) rfl) rfl rfl rfl ?_
            refine gop (y_assign (v := .bool _) rfl) rfl rfl rfl ?_
            refine gops_nil ?_
            refine hN21 _ _ ?_
            refine gT [box rg _, rowl _ _ _ _ _ _, fr] rfl ?_
            refine gfrom [(2, .int _ _), (3, .bool _)] ⟨rfl, rfl, trivial⟩ fun σ => ?_
            refine gret fun w1 hM => ?_
            refine ⟨_, res2 rfl (rt (v := .int _ _) rfl) (rt (v := .bool _) rfl), ?_⟩
            have hR : rd s.size (n + 1) 2 none ts = .ok (.leaf 2 0) ts60 := by rw [hrd, fac, if_neg hc8, if_neg hc24, if_neg hc44, if_neg hc51, if_pos hc58, ht60]
            exact ⟨_, _, B65, bc65, _, _, _, rfl, pok_ok hR (by simp only [Tr.size]; omega) rfl hrs60, weak_take (T' := [_, _, fr]) rfl _ hM⟩
          · 
            replace hc58 := of_decide_eq_false hc58
            obtain rfl : ts = ts60 := by rw [hts60, if_neg hc58]
            obtain rfl : a = a60 := by rw [← hrs.pos, ← hrs60.pos]
            refine gseq fun N22 hN22 => ?_
            refine greg ?_
            refine gop (y_move (v := .pointer (some ⟨rg, 0, none⟩)) rfl) rfl rfl rfl ?_
            refine gop_does1 0 (fun v r G => ∃ a' ts', v = .bool (decide (hd ts = wTests)) ∧ r = box rg (.cells #[.slice B (o).length bc, .string s, .int .i64 ((a' : Nat)), .int .i64 ((nextW s (a') : Nat)), .int .i64 code] 60) ∧ RS s a' ts' ∧ ts' = (if hd ts = wTests then ts.tail else ts) ∧ G = []) (e_call (vs := [.pointer (some ⟨rg, 0, none⟩), _]) Tryd.func45 rfl (by kernel_rfl) rfl) rfl (fun w fr1 hfr hM => (rdTake_any _ w rg _ _ _ s _ fr1 hs _ ts hrs _ hM).mono fun _ _ ⟨a', ts', h1, h2, h3, h4⟩ => ⟨_, _, [], h1, ⟨a', ts', rfl, rfl, h2, h3, rfl⟩, h4⟩) rfl rfl rfl ?_
            rintro _ _ _ ⟨a68, ts68, rfl, rfl, hrs68, hts68, rfl⟩
            refine gop (y_assign (v := .bool _) rfl) rfl rfl rfl ?_
            refine gops_nil ?_
            refine hN22 _ _ ?_
            refine gT [box rg _, rowl _ _ _ _ _ _, fr] rfl ?_
            refine gfrom [(0, .pointer (some ⟨rg, 0, none⟩)), (66, .bool _)] ⟨rfl, rfl, trivial⟩ fun σ => ?_
            refine gcond (b := _) rfl (fun hc66 => ?_) (fun hc66 => ?_)
            · 
              replace hc66 := of_decide_eq_true hc66
              have ht68 : ts68 = ts.tail := by rw [hts68, if_pos hc66]
              have hpl := hd_pos (ts := ts) (by rw [hc66]; decide)
              have htl68 : ts68.length + 1 = ts.length := by rw [ht68]; exact hpl
              refine gseq fun N23 hN23 => ?_
              refine greg ?_
              refine gop (y_move (v := .pointer (some ⟨rg, 0, none⟩)) rfl) rfl rfl rfl ?_
              refine gop (y_nilCheck rfl) rfl rfl rfl ?_
              refine gop (y_fieldAddr_box fa60_0 rfl) rfl rfl rfl ?_
              refine gop (y_build (vs := [(0, _)]) (cells := #[_, .int .i64 0, .int .i64 0, .int .i64 0]) rfl (bd47_0 _)) rfl rfl rfl ?_
              refine gop_does2 0 1 (fun v r s1 G => ∃ B' bc', v = .int .i64 ((o).length : Nat) ∧ r = box rg (.cells #[.slice B' (o ++ [(⟨3, 0, 0, 0⟩ : PN)]).length bc', .string s, .int .i64 ((a68 : Nat)), .int .i64 ((nextW s (a68) : Nat)), .int .i64 code] 60) ∧ s1 = rowl pnCells w0.heap.size 47 4 (.slice B' (o ++ [(⟨3, 0, 0, 0⟩ : PN)]).length bc') (o ++ [(⟨3, 0, 0, 0⟩ : PN)]) ∧ G = []) (e_call (vs := [.pointer _, .agg #[_, _, _, _]]) Tryd.func41 rfl (by kernel_rfl) rfl) rfl rfl rfl (fun w fr1 hfr hM => (polAdd5_any _ w rg _ _ s _ _ _ (o) fr1 hM (by omega) ((⟨3, 0, 0, 0⟩ : PN))).mono fun _ _ ⟨B', bc', h1, h2⟩ => ⟨_, _, _, [], h1, ⟨B', bc', rfl, rfl, rfl, rfl⟩, h2⟩) rfl rfl rfl ?_
              rintro _ _ _ _ ⟨B73, bc73, rfl, rfl, rfl, rfl⟩
              refine gop (y_assign (v := .int _ _) rfl) rfl rfl rfl ?_
              refine gop (y_assign (v := .bool _) rfl) rfl rfl rfl ?_
              refine gops_nil ?_
              refine hN23 _ _ ?_
              refine gT [box rg _, rowl _ _ _ _ _ _, fr] rfl ?_
              refine gfrom [(2, .int _ _), (3, .bool _)] ⟨rfl, rfl, trivial⟩ fun σ => ?_
              refine gret fun w1 hM => ?_
              refine ⟨_, res2 rfl (rt (v := .int _ _) rfl) (rt (v := .bool _) rfl), ?_⟩
              have hR : rd s.size (n + 1) 2 none ts = .ok (.leaf 3 0) ts68 := by rw [hrd, fac, if_neg hc8, if_neg hc24, if_neg hc44, if_neg hc51, if_neg hc58, if_pos hc66, ht68]
              exact ⟨_, _, B73, bc73, _, _, _, rfl, pok_ok hR (by simp only [Tr.size]; omega) rfl hrs68, weak_take (T' := [_, _, fr]) rfl _ hM⟩
            · 
              replace hc66 := of_decide_eq_false hc66
              obtain rfl : ts = ts68 := by rw [hts68, if_neg hc66]
              obtain rfl : a = a68 := by rw [← hrs.pos, ← hrs68.pos]
              refine gskip ?_
              refine hN2 _ _ ?_
              refine gfrom [(0, .pointer (some ⟨rg, 0, none⟩))] ⟨rfl, trivial⟩ fun σ => ?_
              refine gseq fun N24 hN24 => ?_
              refine greg ?_
              refine gop (y_move (v := .pointer (some ⟨rg, 0, none⟩)) rfl) rfl rfl rfl ?_
              refine gop_does1 0 (fun v r G => v = .tuple #[.int .i64 0, .bool false] ∧ r = box rg (.cells #[.slice B o.length bc, .string s, .int .i64 ((a : Nat)), .int .i64 ((nextW s (a) : Nat)), .int .i64 1] 60) ∧ G = []) (e_call (vs := [.pointer (some ⟨rg, 0, none⟩), _]) Tryd.func32 rfl (by kernel_rfl) rfl) rfl (fun w fr1 hfr hM => (rdFail_any _ w rg _ _ _ s _ _ _ fr1 1 hM).mono fun _ _ ⟨h1, h2⟩ => ⟨_, _, [], h1, ⟨rfl, rfl, rfl⟩, h2⟩) rfl rfl rfl ?_
              rintro _ _ _ ⟨rfl, rfl, rfl⟩
              refine gop (y_extract (v := .int _ _) rfl rfl) rfl rfl rfl ?_
              refine gop (y_extract (v := .bool _) rfl rfl) rfl rfl rfl ?_
              refine gop (y_assign (v := .int _ _) rfl) rfl rfl rfl ?_
              refine gop (y_assign (v := .bool _) rfl) rfl rfl rfl ?_
              refine gops_nil ?_
              refine hN24 _ _ ?_
              refine gT [box rg _, rowl _ _ _ _ _ _, fr] rfl ?_
              refine gfrom [(2, .int _ _), (3, .bool _)] ⟨rfl, rfl, trivial⟩ fun σ => ?_
              refine gret fun w1 hM => ?_
              refine ⟨_, res2 rfl (rt (v := .int _ _) rfl) (rt (v := .bool _) rfl), ?_⟩
              have hR : rd s.size (n + 1) 2 none ts = .bad 1 a := by rw [hrd, fac, if_neg hc8, if_neg hc24, if_neg hc44, if_neg hc51, if_neg hc58, if_neg hc66, hrs.pos]
              exact ⟨_, _, B, bc, o, _, _, rfl, pok_bad hR (by omega), weak_take (T' := [_, _, fr]) rfl _ hM⟩
end Go.Proofs.YtllblbkbglifjaaDoor
namespace Go.Proofs.YtllblbkbglifjaaDoor
open Go.RowKit Go.Cf
set_option maxRecDepth 10000
set_option maxHeartbeats 16000000 in
theorem rdList_step (w0 : World) (s : ByteArray) (hs : s.size ≤ 200) (rg n : Nat) (hFac : FacH w0 s rg (n + 1)) (hLi : ∀ m, m ≤ n → ListH w0 s rg m) : ListH w0 s rg (n + 1) := by
  intro lv vi w B bc code o fr a ts hlv hvi hfu hrs hol hM0
  refine gcallsT Tryd.func31 rfl Tryd.ntmps31 (Nat.le_of_ble_eq_true rfl) hM0 ?_
  refine gfrom [(0, .pointer (some ⟨rg, 0, none⟩)), (1, .int _ _)] ⟨rfl, rfl, trivial⟩ fun σ => ?_
  refine gseq fun N1 hN1 => ?_
  refine greg ?_
  refine gop (y_assign (v := .int _ _) rfl) rfl rfl rfl ?_
  refine gop (y_assign (v := .bool _) rfl) rfl rfl rfl ?_
  refine gops_nil ?_
  refine hN1 _ _ ?_
  refine gfrom [(0, .pointer (some ⟨rg, 0, none⟩)), (1, .int _ _)] ⟨rfl, rfl, trivial⟩ fun σ => ?_
  refine gseq fun N2 hN2 => ?_
  refine gseq fun N3 hN3 => ?_
  refine greg ?_
  refine gop (y_move (v := .int _ _) rfl) rfl rfl rfl ?_
  refine gop (y_eql rfl rfl) rfl rfl rfl ?_
  refine gops_nil ?_
  refine hN3 _ _ ?_
  refine gfrom [(0, .pointer (some ⟨rg, 0, none⟩)), (1, .int _ _), (12, .bool _)] ⟨rfl, rfl, rfl, trivial⟩ fun σ => ?_
  refine gcond (b := _) rfl (fun hc12 => ?_) (fun hc12 => ?_)
  · 
    replace hc12 := of_decide_eq_true hc12
    obtain rfl : lv = 2 := by omega
    refine gseq fun N4 hN4 => ?_
    refine greg ?_
    refine gop (y_move (v := .pointer (some ⟨rg, 0, none⟩)) rfl) rfl rfl rfl ?_
    refine gop_does2 0 1 (fun v r s1 G => ∃ x b B' bc' o' a' code', v = .tuple #[.int .i64 x, .bool b] ∧ r = box rg (.cells #[.slice B' o'.length bc', .string s, .int .i64 ((a' : Nat)), .int .i64 ((nextW s (a') : Nat)), .int .i64 code'] 60) ∧ s1 = rowl pnCells w0.heap.size 47 4 (.slice B' (o').length bc') (o') ∧ G = [] ∧ POK s (rd s.size (n + 1) 2 none ts) (o) code x b o' a' code') (e_call (vs := [.pointer (some ⟨rg, 0, none⟩)]) Tryd.func44 rfl (by kernel_rfl) rfl) rfl rfl rfl (fun w fr1 hfr hM => (hFac w _ _ _ o fr1 _ ts (by omega) hrs (by omega) hM).mono fun _ _ ⟨x, b, B', bc', o', a', code', h1, h2, h3⟩ => ⟨_, _, _, [], h1, ⟨x, b, B', bc', o', a', code', rfl, rfl, rfl, rfl, h2⟩, h3⟩) rfl rfl rfl ?_
    rintro _ _ _ _ ⟨x14, b14, B14, bc14, o14, a14, code14, rfl, rfl, rfl, rfl, hp14⟩
    refine gop (y_extract (v := .int _ _) rfl rfl) rfl rfl rfl ?_
    refine gop (y_extract (v := .bool _) rfl rfl) rfl rfl rfl ?_
    refine gop (y_assign (v := .int _ _) rfl) rfl rfl rfl ?_
    refine gop (y_assign (v := .bool _) rfl) rfl rfl rfl ?_
    refine gops_nil ?_
    refine hN4 _ _ ?_
    refine gT [box rg _, rowl _ _ _ _ _ _, fr] rfl ?_
    refine gfrom [(4, .int _ _), (5, .bool _)] ⟨rfl, rfl, trivial⟩ fun σ => ?_
    refine gret fun w1 hM => ?_
    refine ⟨_, res2 rfl (rt (v := .int _ _) rfl) (rt (v := .bool _) rfl), ?_⟩
    exact ⟨x14, b14, B14, bc14, o14, a14, code14, rfl, hp14, weak_take (T' := [_, _, fr]) rfl _ hM⟩
  · 
    replace hc12 := of_decide_eq_false hc12
    have hlv2 : lv < 2 := by omega
    have hR0 : (rd s.size (n + 1) lv none ts) = bindR (rd s.size n (lv + 1) none ts) fun t us => rd s.size n lv (some t) us := by rw [rd, if_neg (by omega)]
    refine gskip ?_
    refine hN2 _ _ ?_
    refine gfrom [(0, .pointer (some ⟨rg, 0, none⟩)), (1, .int _ _)] ⟨rfl, rfl, trivial⟩ fun σ => ?_
    refine gseq fun N5 hN5 => ?_
    refine greg ?_
    refine gop (y_assign (v := .string _) rfl) rfl rfl rfl ?_
    refine gop (y_assign (v := .int _ _) rfl) rfl rfl rfl ?_
    refine gops_nil ?_
    refine hN5 _ _ ?_
    refine gfrom [(0, .pointer (some ⟨rg, 0, none⟩)), (1, .int _ _), (6, .string _), (7, .int _ _)] ⟨rfl, rfl, rfl, rfl, trivial⟩ fun σ => ?_
    refine gseq fun N6 hN6 => ?_
    refine gfrom [(0, .pointer (some ⟨rg, 0, none⟩)), (1, .int _ _), (6, .string _), (7, .int _ _)] ⟨rfl, rfl, rfl, rfl, trivial⟩ fun σ => ?_
    refine gcut3 (Lf := [(0, .pointer (some ⟨rg, 0, none⟩)), (1, .int _ _)]) (G := Unit) (fun g => True) (fun g => [(6, .string (signL lv)), (7, .int .i64 (kindL lv))]) (fun g => []) ⟨rfl, rfl, trivial⟩ ?_ ?_
    ·
      refine gseq fun N7 hN7 => ?_
      refine greg ?_
      refine gop (y_move (v := .int _ _) rfl) rfl rfl rfl ?_
      refine gop (y_eql rfl rfl) rfl rfl rfl ?_
      refine gops_nil ?_
      refine hN7 _ _ ?_
      refine gfrom [(0, .pointer (some ⟨rg, 0, none⟩)), (1, .int _ _), (6, .string _), (7, .int _ _), (18, .bool _)] ⟨rfl, rfl, rfl, rfl, rfl, trivial⟩ fun σ => ?_
      refine gcond (b := _) rfl (fun hc18 => ?_) (fun hc18 => ?_)
      · 
        replace hc18 := of_decide_eq_true hc18
        refine greg ?_
        refine gop (y_assign (v := .string _) rfl) rfl rfl rfl ?_
        refine gop (y_assign (v := .int _ _) rfl) rfl rfl rfl ?_
        refine gops_nil ?_
        refine gcut3_end (()) (trivial) ⟨(congrArg Value.string (by first | (obtain rfl : lv = 1 := (by omega); rfl) | (obtain rfl : lv = 0 := (by omega); rfl))), (congrArg (Value.int .i64) (by first | (obtain rfl : lv = 1 := (by omega); rfl) | (obtain rfl : lv = 0 := (by omega); rfl))), trivial⟩ ⟨rfl, rfl, trivial⟩ ⟨_, rfl⟩
      · 
        replace hc18 := of_decide_eq_false hc18
        refine gskip ?_
        refine gcut3_end (()) (trivial) ⟨(congrArg Value.string (by first | (obtain rfl : lv = 1 := (by omega); rfl) | (obtain rfl : lv = 0 := (by omega); rfl))), (congrArg (Value.int .i64) (by first | (obtain rfl : lv = 1 := (by omega); rfl) | (obtain rfl : lv = 0 := (by omega); rfl))), trivial⟩ ⟨rfl, rfl, trivial⟩ ⟨_, rfl⟩
    ·
      intro g hcut σ
      refine hN6 _ _ ?_
      refine gseq fun N8 hN8 => ?_
      refine greg ?_
      refine gop (y_move (v := .pointer (some ⟨rg, 0, none⟩)) rfl) rfl rfl rfl ?_
      refine gop (y_move (v := .int _ _) rfl) rfl rfl rfl ?_
      refine gop (y_add rfl rfl ⟨by omega, by omega⟩) rfl rfl rfl ?_
      refine gop_does2 0 1 (fun v r s1 G => ∃ x b B' bc' o' a' code', v = .tuple #[.int .i64 x, .bool b] ∧ r = box rg (.cells #[.slice B' o'.length bc', .string s, .int .i64 ((a' : Nat)), .int .i64 ((nextW s (a') : Nat)), .int .i64 code'] 60) ∧ s1 = rowl pnCells w0.heap.size 47 4 (.slice B' (o').length bc') (o') ∧ G = [] ∧ POK s (rd s.size n (lv + 1) none ts) (o) code x b o' a' code') (e_call (vs := [.pointer (some ⟨rg, 0, none⟩), .int _ _]) Tryd.func31 rfl (by kernel_rfl) rfl) rfl rfl rfl (fun w fr1 hfr hM => (hLi n (Nat.le_refl _) (lv + 1) _ w _ _ _ o fr1 _ ts (by omega) (by omega) (by omega) hrs (by omega) hM).mono fun _ _ ⟨x, b, B', bc', o', a', code', h1, h2, h3⟩ => ⟨_, _, _, [], h1, ⟨x, b, B', bc', o', a', code', rfl, rfl, rfl, rfl, h2⟩, h3⟩) rfl rfl rfl ?_
      rintro _ _ _ _ ⟨x23, b23, B23, bc23, o23, a23, code23, rfl, rfl, rfl, rfl, hp23⟩
      refine gop (y_move (v := .tuple #[.int _ _, .bool _]) rfl) rfl rfl rfl ?_
      refine gop (y_extract (v := .int _ _) rfl rfl) rfl rfl rfl ?_
      refine gop (y_extract (v := .bool _) rfl rfl) rfl rfl rfl ?_
      refine gop (y_assign (v := .int _ _) rfl) rfl rfl rfl ?_
      refine gop (y_assign (v := .bool _) rfl) rfl rfl rfl ?_
      refine gops_nil ?_
      refine hN8 _ _ ?_
      refine gT [box rg _, rowl _ _ _ _ _ _, fr] rfl ?_
      refine gfrom [(0, .pointer (some ⟨rg, 0, none⟩)), (1, .int _ _), (6, .string _), (7, .int _ _), (8, .int _ _), (9, .bool _)] ⟨rfl, rfl, rfl, rfl, rfl, rfl, trivial⟩ fun σ => ?_
      refine gseq fun N9 hN9 => ?_
      refine gblock ?_
      refine gfrom2 [(8, .int _ _), (9, .bool _)] [(0, .pointer (some ⟨rg, 0, none⟩)), (1, .int _ _), (6, .string _), (7, .int _ _)] ⟨rfl, rfl, trivial⟩ ⟨rfl, rfl, rfl, rfl, trivial⟩ fun σ => ?_
      refine gloop2 (G := Nat × Int × Bool × Option Addr × Nat × List PN × Nat × Int) (fun (m, x, b, B, bc, o1, a1, code1) => LI s lv n (rd s.size (n + 1) lv none ts) o code m x b o1 a1 code1) (fun (m, x, b, B, bc, o1, a1, code1) => m) (fun (m, x, b, B, bc, o1, a1, code1) => [(8, .int .i64 x), (9, .bool b)]) (fun (m, x, b, B, bc, o1, a1, code1) => [(0, box rg (.cells #[.slice B o1.length bc, .string s, .int .i64 ((a1 : Nat)), .int .i64 ((nextW s (a1) : Nat)), .int .i64 code1] 60)), (1, rowl pnCells w0.heap.size 47 4 (.slice B (o1).length bc) (o1))]) ((n, x23, b23, B23, bc23, o23, a23, code23)) ?h0 ⟨rfl, rfl, trivial⟩ ⟨rfl, rfl, rfl, rfl, trivial⟩ rfl ?round
      case h0 => exact li_start hR0 hlv2 (by omega) hol hp23
      case round =>
        rintro ⟨m, x, b, B, bc, o1, a1, code1⟩ hli σ
        replace hli : LI s lv n (rd s.size (n + 1) lv none ts) o code m x b o1 a1 code1 := hli
        refine gT [box rg _, rowl _ _ _ _ _ _, fr] rfl ?_
        refine gseq fun N10 hN10 => ?_
        refine gseq fun N11 hN11 => ?_
        refine greg ?_
        refine gop (y_move (v := .bool _) rfl) rfl rfl rfl ?_
        refine gop (y_move (v := .bool _) rfl) rfl rfl rfl ?_
        refine gop_if (want := true) rfl rfl rfl rfl rfl rfl (fun hg27 => ?_) (fun hg27 => ?_)
        · 
          have hg27d := hg27
          obtain ⟨t, us, rfl, rfl, hru, rfl, hRm, hfm, hlen⟩ := li_ok hli (by assumption)
          refine gop (y_bare (y_move (v := .pointer (some ⟨rg, 0, none⟩)) rfl)) rfl rfl rfl ?_
          refine gop_on rfl rfl rfl rfl hg27 ?_
          refine gop (y_bare (y_move (v := .string _) rfl)) rfl rfl rfl ?_
          refine gop_on rfl rfl rfl rfl hg27 ?_
          refine gop_does1 0 (fun v r G => ∃ a' ts', v = .bool (decide (hd us = signL lv)) ∧ r = box rg (.cells #[.slice B (o ++ post t o.length).length bc, .string s, .int .i64 ((a' : Nat)), .int .i64 ((nextW s (a') : Nat)), .int .i64 code] 60) ∧ RS s a' ts' ∧ ts' = (if hd us = signL lv then us.tail else us) ∧ G = []) (e_call (vs := [.pointer (some ⟨rg, 0, none⟩), .string _]) Tryd.func45 rfl (by kernel_rfl) rfl) rfl (fun w fr1 hfr hM => (rdTake_any _ w rg _ _ _ s _ fr1 hs _ us hru _ hM).mono fun _ _ ⟨a', ts', h1, h2, h3, h4⟩ => ⟨_, _, [], h1, ⟨a', ts', rfl, rfl, h2, h3, rfl⟩, h4⟩) rfl rfl rfl ?_
          rintro _ _ _ ⟨a30, ts30, rfl, rfl, hrs30, hts30, rfl⟩
          refine gop (y_pick_t (v := .bool _) rfl hg27 rfl) rfl rfl rfl ?_
          refine gops_nil ?_
          refine hN11 _ _ ?_
          refine gT [box rg _, rowl _ _ _ _ _ _, fr] rfl ?_
          refine gfrom [(0, .pointer (some ⟨rg, 0, none⟩)), (1, .int _ _), (6, .string _), (7, .int _ _), (8, .int _ _), (9, .bool _), (31, .bool _)] ⟨rfl, rfl, rfl, rfl, rfl, rfl, rfl, trivial⟩ fun σ => ?_
          refine gcond (b := _) rfl (fun hc31 => ?_) (fun hc31 => ?_)
          · 
            have hsg : hd us = signL lv := by simpa using hc31
            obtain ⟨mm, rfl⟩ : ∃ k, m = k + 1 := ⟨m - 1, by omega⟩
            have ht30 : ts30 = us.tail := by rw [hts30, if_pos hsg]
            have hpl := hd_pos (ts := us) (by rw [hsg]; exact sign_ne lv)
            have htl30 : ts30.length + 1 = us.length := by rw [ht30]; exact hpl
            have hmn := hli.1
            have htp := t.pos
            have hRm1 : (rd s.size (n + 1) lv none ts) = bindR (rd s.size mm (lv + 1) none ts30) fun t2 ts' => rd s.size mm lv (some (.bin (kindL lv) t t2)) ts' := by rw [hRm, rd, if_pos hsg, ht30]
            refine gskip ?_
            refine hN10 _ _ ?_
            refine gfrom [(0, .pointer (some ⟨rg, 0, none⟩)), (1, .int _ _), (6, .string _), (7, .int _ _), (8, .int _ _)] ⟨rfl, rfl, rfl, rfl, rfl, trivial⟩ fun σ => ?_
            refine gblock ?_
            refine gseq fun N12 hN12 => ?_
            refine greg ?_
            refine gop (y_assign (v := .int _ _) rfl) rfl rfl rfl ?_
            refine gops_nil ?_
            refine hN12 _ _ ?_
            refine gfrom [(0, .pointer (some ⟨rg, 0, none⟩)), (1, .int _ _), (6, .string _), (7, .int _ _), (8, .int _ _)] ⟨rfl, rfl, rfl, rfl, rfl, trivial⟩ fun σ => ?_
            refine gseq fun N13 hN13 => ?_
            refine greg ?_
            refine gop (y_move (v := .pointer (some ⟨rg, 0, none⟩)) rfl) rfl rfl rfl ?_
            refine gop (y_move (v := .int _ _) rfl) rfl rfl rfl ?_
            refine gop (y_add rfl rfl ⟨by omega, by omega⟩) rfl rfl rfl ?_
            refine gop_does2 0 1 (fun v r s1 G => ∃ x b B' bc' o' a' code', v = .tuple #[.int .i64 x, .bool b] ∧ r = box rg (.cells #[.slice B' o'.length bc', .string s, .int .i64 ((a' : Nat)), .int .i64 ((nextW s (a') : Nat)), .int .i64 code'] 60) ∧ s1 = rowl pnCells w0.heap.size 47 4 (.slice B' (o').length bc') (o') ∧ G = [] ∧ POK s (rd s.size mm (lv + 1) none ts30) (o ++ post t o.length) code x b o' a' code') (e_call (vs := [.pointer (some ⟨rg, 0, none⟩), .int _ _]) Tryd.func31 rfl (by kernel_rfl) rfl) rfl rfl rfl (fun w fr1 hfr hM => (hLi mm (by omega) (lv + 1) _ w _ _ _ (o ++ post t o.length) fr1 _ ts30 (by omega) (by omega) (by omega) hrs30 (by rw [app_len]; omega) hM).mono fun _ _ ⟨x, b, B', bc', o', a', code', h1, h2, h3⟩ => ⟨_, _, _, [], h1, ⟨x, b, B', bc', o', a', code', rfl, rfl, rfl, rfl, h2⟩, h3⟩) rfl rfl rfl ?_
            rintro _ _ _ _ ⟨x36, b36, B36, bc36, o36, a36, code36, rfl, rfl, rfl, rfl, hp36⟩
            refine gop (y_move (v := .tuple #[.int _ _, .bool _]) rfl) rfl rfl rfl ?_
            refine gop (y_extract (v := .int _ _) rfl rfl) rfl rfl rfl ?_
            refine gop (y_extract (v := .bool _) rfl rfl) rfl rfl rfl ?_
            refine gop (y_assign (v := .int _ _) rfl) rfl rfl rfl ?_
            refine gop (y_assign (v := .bool _) rfl) rfl rfl rfl ?_
            refine gops_nil ?_
            refine hN13 _ _ ?_
            refine gT [box rg _, rowl _ _ _ _ _ _, fr] rfl ?_
            refine gfrom [(0, .pointer (some ⟨rg, 0, none⟩)), (1, .int _ _), (6, .string _), (7, .int _ _), (8, .int _ _), (9, .bool _), (10, .int _ _)] ⟨rfl, rfl, rfl, rfl, rfl, rfl, rfl, trivial⟩ fun σ => ?_
            refine gseq fun N14 hN14 => ?_
            refine greg ?_
            refine gop (y_move (v := .bool _) rfl) rfl rfl rfl ?_
            refine gops_nil ?_
            refine hN14 _ _ ?_
            refine gfrom [(0, .pointer (some ⟨rg, 0, none⟩)), (1, .int _ _), (6, .string _), (7, .int _ _), (8, .int _ _), (9, .bool _), (10, .int _ _), (39, .bool _)] ⟨rfl, rfl, rfl, rfl, rfl, rfl, rfl, rfl, trivial⟩ fun σ => ?_
            refine gcond (b := _) rfl (fun hc39 => ?_) (fun hc39 => ?_)
            · 
              have hb36 : b36 = true := hc39
              obtain ⟨t36, us36, hR36, hx36, ho36, hrt36, hcd36⟩ := pok_yes hp36 (by first | assumption | simpa using hc39)
              have hsz36 : t36.size + us36.length ≤ ts30.length := (rd_ok s.size mm (lv + 1) none ts30 t36 us36 (fun _ h => by cases h) hR36).2
              subst hx36
              subst ho36
              obtain rfl : code = code36 := hcd36.symm
              have hR2 : (rd s.size (n + 1) lv none ts) = rd s.size mm lv (some (.bin (kindL lv) t t36)) us36 := by rw [hRm1, hR36]; rfl
              have htp36 := t36.pos
              have hal := app_len o t
              refine greg ?_
              refine gop (y_move (v := .pointer (some ⟨rg, 0, none⟩)) rfl) rfl rfl rfl ?_
              refine gop (y_nilCheck rfl) rfl rfl rfl ?_
              refine gop (y_fieldAddr_box fa60_0 rfl) rfl rfl rfl ?_
              refine gop (y_move (v := .int _ _) rfl) rfl rfl rfl ?_
              refine gop (y_move (v := .int _ _) rfl) rfl rfl rfl ?_
              refine gop (y_move (v := .int _ _) rfl) rfl rfl rfl ?_
              refine gop (y_build (vs := [(0, .int _ _), (2, .int _ _), (3, .int _ _)]) (cells := #[_, .int .i64 0, _, _]) rfl (bd47_0_2_3 _ _ _)) rfl rfl rfl ?_
              refine gop_does2 0 1 (fun v r s1 G => ∃ B' bc', v = .int .i64 (((o ++ post t o.length) ++ post t36 (o ++ post t o.length).length).length : Nat) ∧ r = box rg (.cells #[.slice B' ((o ++ post t o.length) ++ post t36 (o ++ post t o.length).length ++ [(⟨kindL lv, 0, ((o.length + t.size : Nat) : Int) - 1, (((o ++ post t o.length).length + t36.size : Nat) : Int) - 1⟩ : PN)]).length bc', .string s, .int .i64 ((a36 : Nat)), .int .i64 ((nextW s (a36) : Nat)), .int .i64 code] 60) ∧ s1 = rowl pnCells w0.heap.size 47 4 (.slice B' ((o ++ post t o.length) ++ post t36 (o ++ post t o.length).length ++ [(⟨kindL lv, 0, ((o.length + t.size : Nat) : Int) - 1, (((o ++ post t o.length).length + t36.size : Nat) : Int) - 1⟩ : PN)]).length bc') ((o ++ post t o.length) ++ post t36 (o ++ post t o.length).length ++ [(⟨kindL lv, 0, ((o.length + t.size : Nat) : Int) - 1, (((o ++ post t o.length).length + t36.size : Nat) : Int) - 1⟩ : PN)]) ∧ G = []) (e_call (vs := [.pointer _, .agg #[_, _, _, _]]) Tryd.func41 rfl (by kernel_rfl) rfl) rfl rfl rfl (fun w fr1 hfr hM => (polAdd5_any _ w rg _ _ s _ _ _ ((o ++ post t o.length) ++ post t36 (o ++ post t o.length).length) fr1 hM (by rw [app_len, app_len]; omega) ((⟨kindL lv, 0, ((o.length + t.size : Nat) : Int) - 1, (((o ++ post t o.length).length + t36.size : Nat) : Int) - 1⟩ : PN))).mono fun _ _ ⟨B', bc', h1, h2⟩ => ⟨_, _, _, [], h1, ⟨B', bc', rfl, rfl, rfl, rfl⟩, h2⟩) rfl rfl rfl ?_
              rintro _ _ _ _ ⟨B47, bc47, rfl, rfl, rfl, rfl⟩
              refine gop (y_assign (v := .int _ _) rfl) rfl rfl rfl ?_
              refine gops_nil ?_
              refine gnext2 ((mm, (((o ++ post t o.length) ++ post t36 (o ++ post t o.length).length).length : Nat), b36, B47, bc47, (o ++ post t o.length) ++ post t36 (o ++ post t o.length).length ++ [(⟨kindL lv, 0, ((o.length + t.size : Nat) : Int) - 1, (((o ++ post t o.length).length + t36.size : Nat) : Int) - 1⟩ : PN)], a36, code)) (by show mm < mm + 1; omega) (⟨by omega, .inr ⟨hb36, .bin (kindL lv) t t36, us36, by rw [app_len, app_len, size_bin]; omega, post_bin_app o (kindL lv) t t36, hrt36, rfl, hR2, by omega, by rw [size_bin]; omega⟩⟩) ⟨rfl, rfl, trivial⟩ ⟨rfl, rfl, rfl, rfl, trivial⟩ ⟨_, rfl⟩
            · 
              have hb36 : b36 = false := by simpa using hc39
              obtain ⟨hR36, ho36⟩ := pok_no hp36 hb36
              have hR2 : (rd s.size (n + 1) lv none ts) = .bad code36 a36 := by rw [hRm1, hR36]; rfl
              refine gskip ?_
              refine gnext2 ((mm, _, b36, B36, bc36, o36, a36, code36)) (by show mm < mm + 1; omega) (⟨by omega, .inl ⟨hb36, hR2, ho36⟩⟩) ⟨rfl, rfl, trivial⟩ ⟨rfl, rfl, rfl, rfl, trivial⟩ ⟨_, rfl⟩
          · 
            refine gexit ?_
            refine hN9 _ _ ?_
            refine gfrom [(8, .int _ _), (9, .bool _)] ⟨rfl, rfl, trivial⟩ fun σ => ?_
            refine gseq fun N15 hN15 => ?_
            refine greg ?_
            refine gop (y_move (v := .int _ _) rfl) rfl rfl rfl ?_
            refine gop (y_move (v := .bool _) rfl) rfl rfl rfl ?_
            refine gop (y_assign (v := .int _ _) rfl) rfl rfl rfl ?_
            refine gop (y_assign (v := .bool _) rfl) rfl rfl rfl ?_
            refine gops_nil ?_
            refine hN15 _ _ ?_
            refine gfrom [(4, .int _ _), (5, .bool _)] ⟨rfl, rfl, trivial⟩ fun σ => ?_
            refine gret fun w1 hM => ?_
            refine ⟨_, res2 rfl (rt (v := .int _ _) rfl) (rt (v := .bool _) rfl), ?_⟩
            first
            | (have hne : ¬ hd us = signL lv := by simpa using hc31
               have hRx : (rd s.size (n + 1) lv none ts) = .ok t us := by
                 obtain ⟨mm, rfl⟩ : ∃ k, m = k + 1 := ⟨m - 1, by omega⟩
                 rw [hRm, rd, if_neg hne]
               obtain rfl : us = ts30 := by rw [hts30, if_neg hne]
               exact ⟨_, _, B, bc, _, _, _, rfl, pok_ok2 (by assumption) hRx rfl rfl hrs30, weak_take (T' := [_, _, fr]) rfl _ hM⟩)
            | (obtain ⟨hRb, hob⟩ := li_bad hli (by assumption)
               exact ⟨_, _, _, _, _, _, _, rfl, pok_bad2 (by assumption) hRb hob, weak_take (T' := [_, _, fr]) rfl _ hM⟩)
        · 
          have hg27d := hg27
          refine gop_off rfl rfl rfl rfl hg27 rfl rfl ?_
          refine gop_off rfl rfl rfl rfl hg27 rfl rfl ?_
          refine gop (y_pick_f (v := .bool _) rfl hg27 rfl) rfl rfl rfl ?_
          refine gops_nil ?_
          refine hN11 _ _ ?_
          refine gfrom [(0, .pointer (some ⟨rg, 0, none⟩)), (1, .int _ _), (6, .string _), (7, .int _ _), (8, .int _ _), (9, .bool _), (31, .bool _)] ⟨rfl, rfl, rfl, rfl, rfl, rfl, rfl, trivial⟩ fun σ => ?_
          refine gcond (b := _) rfl (fun hc31 => ?_) (fun hc31 => ?_)
          · 
            cases hc31
          · 
            refine gexit ?_
            refine hN9 _ _ ?_
            refine gfrom [(8, .int _ _), (9, .bool _)] ⟨rfl, rfl, trivial⟩ fun σ => ?_
            refine gseq fun N16 hN16 => ?_
            refine greg ?_
            refine gop (y_move (v := .int _ _) rfl) rfl rfl rfl ?_
            refine gop (y_move (v := .bool _) rfl) rfl rfl rfl ?_
            refine gop (y_assign (v := .int _ _) rfl) rfl rfl rfl ?_
            refine gop (y_assign (v := .bool _) rfl) rfl rfl rfl ?_
            refine gops_nil ?_
            refine hN16 _ _ ?_
            refine gfrom [(4, .int _ _), (5, .bool _)] ⟨rfl, rfl, trivial⟩ fun σ => ?_
            refine gret fun w1 hM => ?_
            refine ⟨_, res2 rfl (rt (v := .int _ _) rfl) (rt (v := .bool _) rfl), ?_⟩
            first
            | (have hne : ¬ hd us = signL lv := by simpa using hc31
               have hRx : (rd s.size (n + 1) lv none ts) = .ok t us := by
                 obtain ⟨mm, rfl⟩ : ∃ k, m = k + 1 := ⟨m - 1, by omega⟩
                 rw [hRm, rd, if_neg hne]
               obtain rfl : us = ts30 := by rw [hts30, if_neg hne]
               exact ⟨_, _, B, bc, _, _, _, rfl, pok_ok2 (by assumption) hRx rfl rfl hrs30, weak_take (T' := [_, _, fr]) rfl _ hM⟩)
            | (obtain ⟨hRb, hob⟩ := li_bad hli (by assumption)
               exact ⟨_, _, _, _, _, _, _, rfl, pok_bad2 (by assumption) hRb hob, weak_take (T' := [_, _, fr]) rfl _ hM⟩)
end Go.Proofs.YtllblbkbglifjaaDoor
namespace Go.Proofs.YtllblbkbglifjaaDoor
open Go.RowKit Go.Cf
theorem rd_both (w0 : World) (s : ByteArray) (hs : s.size ≤ 200) (hL : LaidP w0) (rg : Nat) : ∀ n, (∀ m, m ≤ n → ListH w0 s rg m) ∧ FacH w0 s rg n
  | 0 => ⟨fun m hm lv vi w B bc code o fr a ts hlv hvi hfu => by omega, fun w B bc code o fr a ts hfu => by omega⟩
  | n + 1 => by
    obtain ⟨h1, h2⟩ := rd_both w0 s hs hL rg n
    have h3 := rdFactor_step w0 s hs hL rg n h2 (h1 n (Nat.le_refl _))
    refine ⟨fun m hm => ?_, h3⟩
    rcases Nat.lt_or_ge n m with h | h
    · obtain rfl : m = n + 1 := by omega
      exact rdList_step w0 s hs rg n h3 h1
    · exact h1 m h
end Go.Proofs.YtllblbkbglifjaaDoor
namespace Go.Proofs.YtllblbkbglifjaaDoor
open Go.RowKit Go.Cf
set_option maxRecDepth 10000
theorem bd60_1 (x1 : ByteArray) : Tryd.prog.built 60 [(1, .string x1)] = some #[.slice none 0 0, .string x1, .int .i64 0, .int .i64 0, .int .i64 0] := by kernel_rfl
set_option maxHeartbeats 8000000 in
theorem polParse_any (w : World) (s : ByteArray) (hL : LaidP w) (hs0 : s.size ≤ 9223372036854775807) :
    Calls Tryd.prog 19 #[.string s] w fun e w' => ∃ pv, e = .returned (.tuple #[.agg #[pv], fv (parR s).1]) ∧ Below w.heap.size w w' ∧ NewL 4 pnCells (parR s).2 w.heap.size w' pv := by
  refine gcalls Tryd.func19 rfl Tryd.ntmps19 (Nat.le_of_ble_eq_true rfl) ?_
  refine gfrom [(0, .string s)] ⟨rfl, trivial⟩ fun σ => ?_
  refine gseq fun N1 hN1 => ?_
  refine greg ?_
  refine gop_alloc (cs := #[.slice none 0 0]) Tryd.zeroValue24 rfl rfl (fun b2 hb2 => ?_)
  refine gop_alloc (cs := #[.int .i64 0, .int .i64 0]) Tryd.zeroValue28 rfl rfl (fun b3 hb3 => ?_)
  refine gops_nil ?_
  refine hN1 _ _ ?_
  refine gT [box b2 _, box b3 _] rfl ?_
  refine gfrom [(0, .string s), (2, .pointer _), (3, .pointer _)] ⟨rfl, rfl, rfl, trivial⟩ fun σ => ?_
  refine gseq fun N2 hN2 => ?_
  refine gseq fun N3 hN3 => ?_
  refine greg ?_
  refine gop (y_move (v := .string s) rfl) rfl rfl rfl ?_
  refine gop (y_lens Tryd.underlying9 rfl) rfl rfl rfl ?_
  refine gop (y_gtr rfl rfl) rfl rfl rfl ?_
  refine gops_nil ?_
  refine hN3 _ _ ?_
  refine gfrom [(0, .string s), (2, .pointer _), (3, .pointer _), (9, .bool _)] ⟨rfl, rfl, rfl, rfl, trivial⟩ fun σ => ?_
  refine gcond (b := _) rfl (fun hc9 => ?_) (fun hc9 => ?_)
  · 
    replace hc9 := of_decide_eq_true hc9
    have hP : parR s = (⟨2, -1⟩, []) := by rw [parR, if_pos (by omega)]
    refine gseq fun N4 hN4 => ?_
    refine greg ?_
    refine gop (y_build (vs := []) (cells := #[.slice none 0 0]) rfl bd24_) rfl rfl rfl ?_
    refine gop (y_build (vs := [(0, _), (1, _)]) (cells := #[_, _]) rfl (bd28_0_1 _ _)) rfl rfl rfl ?_
    refine gop_store 0 (v := .agg #[_]) (cs' := #[_]) rfl rfl Tryd.sizeOf24 rfl rfl rfl rfl (Nat.le_of_ble_eq_true rfl) rfl rfl ?_
    refine gop_store 1 (v := .agg #[_, _]) (cs' := #[_, _]) rfl rfl Tryd.sizeOf28 rfl rfl rfl rfl (Nat.le_of_ble_eq_true rfl) rfl rfl ?_
    refine gops_nil ?_
    refine hN4 _ _ ?_
    refine gT [box b2 _, box b3 _] rfl ?_
    refine gfrom [(2, .pointer _), (3, .pointer _)] ⟨rfl, rfl, trivial⟩ fun σ => ?_
    refine gret fun w1 hM => ?_
    refine ⟨_, res2 rfl (rc 0 (cs := [_]) hM rfl rfl Tryd.isAgg24 Tryd.sizeOf24 rfl) (rc 1 (cs := [_, _]) hM rfl rfl Tryd.isAgg28 Tryd.sizeOf28 rfl), ?_⟩
    rw [hP]
    exact ⟨_, rfl, hM.low, newL_nil⟩
  · 
    replace hc9 := of_decide_eq_false hc9
    have hs : s.size ≤ 200 := by omega
    refine gskip ?_
    refine hN2 _ _ ?_
    refine gfrom [(0, .string s), (2, .pointer _), (3, .pointer _)] ⟨rfl, rfl, rfl, trivial⟩ fun σ => ?_
    refine gseq fun N5 hN5 => ?_
    refine greg ?_
    refine gop (y_move (v := .string s) rfl) rfl rfl rfl ?_
    refine gop (y_build (vs := [(1, .string s)]) (cells := #[.slice none 0 0, _, .int .i64 0, .int .i64 0, .int .i64 0]) rfl (bd60_1 _)) rfl rfl rfl ?_
    refine gop_alloc (cs := #[.slice none 0 0, .string .empty, .int .i64 0, .int .i64 0, .int .i64 0]) Tryd.zeroValue60 rfl rfl (fun b4 hb4 => ?_)
    refine gop_store 2 (v := .agg #[_, _, _, _, _]) (cs' := #[_, _, _, _, _]) rfl rfl Tryd.sizeOf60 rfl rfl rfl rfl (Nat.le_of_ble_eq_true rfl) rfl rfl ?_
    refine gops_nil ?_
    refine hN5 _ _ ?_
    refine gT [box b2 _, box b3 _, box b4 _] rfl ?_
    refine gfrom [(0, .string s), (2, .pointer _), (3, .pointer _), (4, .pointer _)] ⟨rfl, rfl, rfl, rfl, trivial⟩ fun σ => ?_
    refine gseq fun N6 hN6 => ?_
    refine greg ?_
    refine gop_does1 2 (fun v r G => v = .tuple #[] ∧ r = box b4 (.cells #[.slice none 0 0, .string s, .int .i64 ((skipW s 0 : Nat)), .int .i64 ((nextW s (skipW s 0) : Nat)), .int .i64 0] 60) ∧ G = []) (e_call (vs := [.pointer _]) Tryd.func30 rfl (by kernel_rfl) rfl) rfl (fun w fr1 hfr hM => (rdScan_any _ w b4 _ _ _ s _ fr1 hs _ _ 0 rfl (Nat.zero_le _) hM).mono fun _ _ ⟨h1, h2⟩ => ⟨_, _, [], h1, ⟨rfl, rfl, rfl⟩, h2⟩) rfl rfl rfl ?_
    rintro _ _ _ ⟨rfl, rfl, rfl⟩
    refine gops_nil ?_
    refine hN6 _ _ ?_
    refine gT [box b2 _, box b3 _, box b4 _] rfl ?_
    refine gfrom [(0, .string s), (2, .pointer _), (3, .pointer _), (4, .pointer _)] ⟨rfl, rfl, rfl, rfl, trivial⟩ fun σ => ?_
    refine gseq fun N7 hN7 => ?_
    refine greg ?_
    refine gops_nilrow pnCells 47 4 ?_
    refine gop_does2 2 3 (fun v r s1 G => ∃ x b B' bc' o' a' code', v = .tuple #[.int .i64 x, .bool b] ∧ r = box b4 (.cells #[.slice B' o'.length bc', .string s, .int .i64 ((a' : Nat)), .int .i64 ((nextW s (a') : Nat)), .int .i64 code'] 60) ∧ s1 = rowl pnCells w.heap.size 47 4 (.slice B' (o').length bc') (o') ∧ G = [] ∧ POK s (rd s.size (fuelOf s) 0 none (tks s 0)) ([]) 0 x b o' a' code') (e_call (vs := [.pointer _, _]) Tryd.func31 rfl (by kernel_rfl) rfl) rfl rfl rfl (fun w fr1 hfr hM => ((rd_both _ s hs hL b4 (fuelOf s)).1 _ (Nat.le_refl _) 0 _ w _ _ _ [] fr1 _ (tks s 0) (by omega) rfl (by unfold fuelOf; omega) (RS.start s) (by have h9 := tks_len s _ 0 rfl; simp; omega) hM).mono fun _ _ ⟨x, b, B', bc', o', a', code', h1, h2, h3⟩ => ⟨_, _, _, [], h1, ⟨x, b, B', bc', o', a', code', rfl, rfl, rfl, rfl, h2⟩, h3⟩) rfl rfl rfl ?_
    rintro _ _ _ _ ⟨x16, b16, B16, bc16, o16, a16, code16, rfl, rfl, rfl, rfl, hp16⟩
    refine gops_fact (fun w hM => row_form (hM.ok _ (List.mem_of_getElem? (i := 3) rfl))) ?_
    rintro ⟨A16, c16, hv16, hc16, hm16, hn16⟩
    simp only [Value.slice.injEq] at hv16
    obtain ⟨rfl, -, rfl⟩ := hv16
    refine gop (y_move (v := .tuple #[.int _ _, .bool _]) rfl) rfl rfl rfl ?_
    refine gop (y_extract (v := .int _ _) rfl rfl) rfl rfl rfl ?_
    refine gop (y_extract (v := .bool _) rfl rfl) rfl rfl rfl ?_
    refine gop (y_assign (v := .int _ _) rfl) rfl rfl rfl ?_
    refine gop (y_assign (v := .bool _) rfl) rfl rfl rfl ?_
    refine gops_nil ?_
    refine hN7 _ _ ?_
    refine gT [box b2 _, box b3 _, box b4 _, rowl _ _ _ _ _ _] rfl ?_
    refine gfrom [(0, .string s), (2, .pointer _), (3, .pointer _), (4, .pointer _), (6, .bool _)] ⟨rfl, rfl, rfl, rfl, rfl, trivial⟩ fun σ => ?_
    refine gseq fun N8 hN8 => ?_
    refine gfrom [(0, .string s), (2, .pointer _), (3, .pointer _), (4, .pointer _), (6, .bool _)] ⟨rfl, rfl, rfl, rfl, rfl, trivial⟩ fun σ => ?_
    refine gcut3 (Lf := [(2, .pointer _), (3, .pointer _), (4, .pointer _)]) (G := Bool × Int × Nat) (fun (b, cd, ac) => (b = false ∧ parR s = (⟨cd, ac⟩, [])) ∨ (b = true ∧ ∃ t : Tr, t.ok ∧ t.size ≤ 1000 ∧ o16 = post t 0 ∧ parR s = madeR t)) (fun (b, cd, ac) => [(6, .bool b)]) (fun (b, cd, ac) => [(2, box b4 (.cells #[.slice B16 o16.length bc16, .string s, .int .i64 ((ac : Nat)), .int .i64 ((nextW s (ac) : Nat)), .int .i64 cd] 60))]) ⟨rfl, rfl, rfl, trivial⟩ ?_ ?_
    ·
      refine gseq fun N9 hN9 => ?_
      refine greg ?_
      refine gop (y_move (v := .bool _) rfl) rfl rfl rfl ?_
      refine gop (y_move (v := .bool _) rfl) rfl rfl rfl ?_
      refine gop_if (want := true) rfl rfl rfl rfl rfl rfl (fun hg20 => ?_) (fun hg20 => ?_)
      · 
        have hg20d := hg20
        have hb16 : b16 = true := by assumption
        obtain ⟨t, us, hR, hx, ho, hrt, -⟩ := pok_yes hp16 hb16
        obtain ⟨hto, hts⟩ := rd_ok s.size _ _ none _ _ _ (fun _ h => by cases h) hR
        have htl := tks_len s _ 0 rfl
        simp only [Option.map, Option.getD] at hts
        refine gop (y_bare (y_fieldAddr_box fa60_2 rfl)) rfl rfl rfl ?_
        refine gop_on rfl rfl rfl rfl hg20 ?_
        refine gop (y_bare (y_load Tryd.isAgg3 rfl (cell_box 2 rfl rfl))) rfl rfl rfl ?_
        refine gop_on rfl rfl rfl rfl hg20 ?_
        refine gop (y_bare (y_move (v := .string s) rfl)) rfl rfl rfl ?_
        refine gop_on rfl rfl rfl rfl hg20 ?_
        refine gop (y_bare (y_lens Tryd.underlying9 rfl)) rfl rfl rfl ?_
        refine gop_on rfl rfl rfl rfl hg20 ?_
        refine gop (y_bare (y_lss rfl rfl)) rfl rfl rfl ?_
        refine gop (y_pick_t (v := .bool _) rfl hg20 rfl) rfl rfl rfl ?_
        refine gops_nil ?_
        refine hN9 _ _ ?_
        refine gfrom [(2, .pointer _), (3, .pointer _), (4, .pointer _), (6, .bool _), (26, .bool _)] ⟨rfl, rfl, rfl, rfl, rfl, trivial⟩ fun σ => ?_
        refine gcond (b := _) rfl (fun hc26 => ?_) (fun hc26 => ?_)
        · 
          replace hc26 := of_decide_eq_true hc26
          have hus : us ≠ [] := fun h => hrt.nil.1 h (by omega)
          have hP : parR s = (⟨1, a16⟩, []) := by
            rw [parR, if_neg (by omega), hR]
            show (if us = [] then madeR t else (⟨1, pos s.size us⟩, [])) = _
            rw [if_neg hus, hrt.pos]
          refine greg ?_
          refine gop_does1 2 (fun v r G => v = .tuple #[.int .i64 0, .bool false] ∧ r = box b4 (.cells #[.slice B16 o16.length bc16, .string s, .int .i64 ((a16 : Nat)), .int .i64 ((nextW s (a16) : Nat)), .int .i64 1] 60) ∧ G = []) (e_call (vs := [.pointer _, _]) Tryd.func32 rfl (by kernel_rfl) rfl) rfl (fun w fr1 hfr hM => (rdFail_any _ w b4 _ _ _ s _ _ _ fr1 1 hM).mono fun _ _ ⟨h1, h2⟩ => ⟨_, _, [], h1, ⟨rfl, rfl, rfl⟩, h2⟩) rfl rfl rfl ?_
          rintro _ _ _ ⟨rfl, rfl, rfl⟩
          refine gop (y_move (v := .tuple #[.int _ _, .bool _]) rfl) rfl rfl rfl ?_
          refine gop (y_extract (v := .int _ _) rfl rfl) rfl rfl rfl ?_
          refine gop (y_extract (v := .bool _) rfl rfl) rfl rfl rfl ?_
          refine gop (y_assign (v := .bool _) rfl) rfl rfl rfl ?_
          refine gops_nil ?_
          refine gcut3_end ((false, 1, a16)) (.inl ⟨rfl, hP⟩) ⟨rfl, trivial⟩ ⟨rfl, rfl, rfl, trivial⟩ ⟨_, rfl⟩
        · 
          replace hc26 := of_decide_eq_false hc26
          first
          | (have hP : parR s = madeR t := by
               rw [parR, if_neg (by omega), hR]
               show (if us = [] then madeR t else (⟨1, pos s.size us⟩, [])) = _
               rw [if_pos (hrt.nil.2 (by omega))])
          | skip
          refine gskip ?_
          refine gcut3_end ((b16, code16, a16)) (.inr ⟨hb16, t, hto, by omega, ho, hP⟩) ⟨rfl, trivial⟩ ⟨rfl, rfl, rfl, trivial⟩ ⟨_, rfl⟩
      · 
        have hg20d := hg20
        have hb16 : b16 = false := by assumption
        obtain ⟨hR, -⟩ := pok_no hp16 hb16
        have hP : parR s = (⟨code16, a16⟩, []) := by rw [parR, if_neg (by omega), hR]
        refine gop_off rfl rfl rfl rfl hg20 rfl rfl ?_
        refine gop_off rfl rfl rfl rfl hg20 rfl rfl ?_
        refine gop_off rfl rfl rfl rfl hg20 rfl rfl ?_
        refine gop_off rfl rfl rfl rfl hg20 rfl rfl ?_
        refine gop (y_pick_f (v := .bool _) rfl hg20 rfl) rfl rfl rfl ?_
        refine gops_nil ?_
        refine hN9 _ _ ?_
        refine gfrom [(2, .pointer _), (3, .pointer _), (4, .pointer _), (6, .bool _), (26, .bool _)] ⟨rfl, rfl, rfl, rfl, rfl, trivial⟩ fun σ => ?_
        refine gcond (b := _) rfl (fun hc26 => ?_) (fun hc26 => ?_)
        · 
          cases hc26
        · 
          first
          | (have hP : parR s = madeR t := by
               rw [parR, if_neg (by omega), hR]
               show (if us = [] then madeR t else (⟨1, pos s.size us⟩, [])) = _
               rw [if_pos (hrt.nil.2 (by omega))])
          | skip
          refine gskip ?_
          refine gcut3_end ((b16, code16, a16)) (.inl ⟨hb16, hP⟩) ⟨rfl, trivial⟩ ⟨rfl, rfl, rfl, trivial⟩ ⟨_, rfl⟩
    ·
      rintro ⟨b, cd, ac⟩ hcut σ
      refine hN8 _ _ ?_
      refine gseq fun N10 hN10 => ?_
      refine gseq fun N11 hN11 => ?_
      refine greg ?_
      refine gop (y_move (v := .bool _) rfl) rfl rfl rfl ?_
      refine gop (y_not rfl) rfl rfl rfl ?_
      refine gops_nil ?_
      refine hN11 _ _ ?_
      refine gT [box b2 _, box b3 _, box b4 _, rowl _ _ _ _ _ _] rfl ?_
      refine gfrom [(2, .pointer _), (3, .pointer _), (4, .pointer _), (32, .bool _)] ⟨rfl, rfl, rfl, rfl, trivial⟩ fun σ => ?_
      refine gcond (b := _) rfl (fun hc32 => ?_) (fun hc32 => ?_)
      · 
        replace hc32 := not_t hc32
        have hb : b = false := by simpa using hc32
        have hP : parR s = (⟨cd, ac⟩, []) := by
          rcases hcut with h9 | h9
          · exact h9.2
          · rw [hb] at h9; exact absurd h9.1 (by decide)
        refine gseq fun N12 hN12 => ?_
        refine greg_e1 [] [(0, room b2 24 1), (1, room b3 28 2)] (by kernel_rfl) ?_
        refine ge_take 0 (TK := [room b2 24 1, room b3 28 2, box b4 _, rowl _ _ _ _ _ _]) rfl (by kernel_rfl) (by kernel_rfl) (by kernel_rfl) #[false, true, true, true, true, true, false, false] (by kernel_rfl) rfl (y_build (vs := []) (cells := #[.slice none 0 0]) rfl bd24_) rfl rfl rfl (weak_trans (weak_room 0 rfl rfl) (weak_room 1 rfl rfl)) (listed' := #[true, false, false, false, false, false, false, false]) rfl ?_
        refine ge_take 1 (TK := [room b2 24 1, room b3 28 2, box b4 _, rowl _ _ _ _ _ _]) rfl (by kernel_rfl) (by kernel_rfl) (by kernel_rfl) #[true, false, false, true, true, false, true, false] (by kernel_rfl) rfl (y_fieldAddr_box fa60_4 rfl) rfl rfl rfl (weak_trans (weak_room 0 rfl rfl) (weak_room 1 rfl rfl)) (listed' := #[true, true, false, false, false, false, false, false]) rfl ?_
        refine ge_take 2 (TK := [room b2 24 1, room b3 28 2, box b4 _, rowl _ _ _ _ _ _]) rfl (by kernel_rfl) (by kernel_rfl) (by kernel_rfl) #[true, true, false, true, true, false, true, false] (by kernel_rfl) rfl (y_load Tryd.isAgg3 rfl (cell_box 2 rfl rfl)) rfl rfl rfl (weak_trans (weak_room 0 rfl rfl) (weak_room 1 rfl rfl)) (listed' := #[true, true, true, false, false, false, false, false]) rfl ?_
        refine ge_take 3 (TK := [room b2 24 1, room b3 28 2, box b4 _, rowl _ _ _ _ _ _]) rfl (by kernel_rfl) (by kernel_rfl) (by kernel_rfl) #[true, true, true, false, false, false, true, false] (by kernel_rfl) rfl (y_fieldAddr_box fa60_2 rfl) rfl rfl rfl (weak_trans (weak_room 0 rfl rfl) (weak_room 1 rfl rfl)) (listed' := #[true, true, true, true, false, false, false, false]) rfl ?_
        refine ge_take 4 (TK := [room b2 24 1, room b3 28 2, box b4 _, rowl _ _ _ _ _ _]) rfl (by kernel_rfl) (by kernel_rfl) (by kernel_rfl) #[true, true, true, true, false, false, true, false] (by kernel_rfl) rfl (y_load Tryd.isAgg3 rfl (cell_box 2 rfl rfl)) rfl rfl rfl (weak_trans (weak_room 0 rfl rfl) (weak_room 1 rfl rfl)) (listed' := #[true, true, true, true, true, false, false, false]) rfl ?_
        refine ge_take 5 (TK := [room b2 24 1, room b3 28 2, box b4 _, rowl _ _ _ _ _ _]) rfl (by kernel_rfl) (by kernel_rfl) (by kernel_rfl) #[true, true, true, true, true, false, true, false] (by kernel_rfl) rfl (y_build (vs := [(0, .int _ _), (1, .int _ _)]) (cells := #[_, _]) rfl (bd28_0_1 _ _)) rfl rfl rfl (weak_trans (weak_room 0 rfl rfl) (weak_room 1 rfl rfl)) (listed' := #[true, true, true, true, true, true, false, false]) rfl ?_
        refine ge_one 6 (k' := 0) (listed' := #[true, true, true, true, true, true, true, false]) (by kernel_rfl) rfl rfl rfl ?_
        refine gop_store 0 (v := .agg #[_]) (cs' := #[_]) rfl rfl Tryd.sizeOf24 rfl rfl rfl rfl (Nat.le_of_ble_eq_true rfl) rfl rfl ?_
        refine gops_nil ?_
        refine ge_fin (TK := [room b2 24 1, room b3 28 2, box b4 _, rowl _ _ _ _ _ _]) rfl (weak_trans (weak_room 0 rfl rfl) (weak_room 1 rfl rfl)) ?_
        refine ge_one 7 (k' := 0) (listed' := #[true, true, true, true, true, true, true, true]) (by kernel_rfl) rfl rfl rfl ?_
        refine gop_store 1 (v := .agg #[_, _]) (cs' := #[_, _]) rfl rfl Tryd.sizeOf28 rfl rfl rfl rfl (Nat.le_of_ble_eq_true rfl) rfl rfl ?_
        refine gops_nil ?_
        refine ge_fin (TK := [room b2 24 1, room b3 28 2, box b4 _, rowl _ _ _ _ _ _]) rfl (weak_trans (weak_room 0 rfl rfl) (weak_room 1 rfl rfl)) ?_
        refine ge_done (by kernel_rfl) ?_
        refine hN12 _ _ ?_
        refine gT [box b2 _, box b3 _, box b4 _, rowl _ _ _ _ _ _] rfl ?_
        refine gfrom [(2, .pointer _), (3, .pointer _)] ⟨rfl, rfl, trivial⟩ fun σ => ?_
        refine gret fun w1 hM => ?_
        refine ⟨_, res2 rfl (rc 0 (cs := [_]) hM rfl rfl Tryd.isAgg24 Tryd.sizeOf24 rfl) (rc 1 (cs := [_, _]) hM rfl rfl Tryd.isAgg28 Tryd.sizeOf28 rfl), ?_⟩
        rw [hP]
        exact ⟨_, rfl, hM.low, newL_nil⟩
      · 
        replace hc32 := not_f hc32
        have hb : b = true := by simpa using hc32
        obtain ⟨t, hto, hts, rfl, hP⟩ : ∃ t : Tr, t.ok ∧ t.size ≤ 1000 ∧ o16 = post t 0 ∧ parR s = madeR t := by
          rcases hcut with h9 | h9
          · rw [hb] at h9; exact absurd h9.1 (by decide)
          · exact h9.2
        refine gskip ?_
        refine hN10 _ _ ?_
        refine gfrom [(2, .pointer _), (3, .pointer _), (4, .pointer _)] ⟨rfl, rfl, rfl, trivial⟩ fun σ => ?_
        refine gseq fun N13 hN13 => ?_
        refine greg ?_
        refine gop (y_fieldAddr_box fa60_0 rfl) rfl rfl rfl ?_
        refine gop_pure (e_call (vs := [.pointer _]) Tryd.func26 rfl (by kernel_rfl) rfl) (fun w hM => polMade1_any w b4 _ _ t hto (by omega) (cell_box 2 (off := 0) rfl rfl w hM) ((row_rdl (f := pnCells) (fun _ => rfl) (hM.ok _ (List.mem_of_getElem? (i := 3) rfl))).mono (Nat.zero_le _)) hc16 hm16) rfl rfl rfl ?_
        refine gop (y_extract (v := .agg #[_]) rfl rfl) rfl rfl rfl ?_
        refine gop (y_extract (v := .agg #[_, _]) rfl rfl) rfl rfl rfl ?_
        refine gop_store 0 (v := .agg #[_]) (cs' := #[_]) rfl rfl Tryd.sizeOf24 rfl rfl rfl rfl (Nat.le_of_ble_eq_true rfl) rfl rfl ?_
        refine gop_store 1 (v := .agg #[_, _]) (cs' := #[_, _]) rfl rfl Tryd.sizeOf28 rfl rfl rfl rfl (Nat.le_of_ble_eq_true rfl) rfl rfl ?_
        refine gops_nil ?_
        refine hN13 _ _ ?_
        refine gT [box b2 _, box b3 _, box b4 _, rowl _ _ _ _ _ _] rfl ?_
        refine gfrom [(2, .pointer _), (3, .pointer _)] ⟨rfl, rfl, trivial⟩ fun σ => ?_
        refine gret fun w1 hM => ?_
        refine ⟨_, res2 rfl (rc 0 (cs := [_]) hM rfl rfl Tryd.isAgg24 Tryd.sizeOf24 rfl) (rc 1 (cs := [_, _]) hM rfl rfl Tryd.isAgg28 Tryd.sizeOf28 rfl), ?_⟩
        rw [hP]
        by_cases hB : 24 < t.size ∨ 12 < t.depth
        · have hm : (madeR t).2 = [] := by rw [madeR, if_pos hB]
          refine ⟨_, rfl, hM.low, ?_⟩
          rw [hm]
          simp only [if_pos hB]
          exact newL_nil
        · have hm : (madeR t).2 = post t 0 := by rw [madeR, if_neg hB]
          refine ⟨_, rfl, hM.low, ?_⟩
          rw [hm]
          simp only [if_neg hB]
          exact hM.newL 3 rfl (fun _ => rfl)
end Go.Proofs.YtllblbkbglifjaaDoor
namespace Go.Proofs.YtllblbkbglifjaaDoor
open Go.RowKit Go.Cf
set_option maxRecDepth 10000
theorem eg47 (op : BinOp) (x y : Operand) (xs ys : Array Value) (w : World) : (eqGuard op 47 x y (.agg xs) (.agg ys)).run Tryd.prog w = .ok () w := run_eqGuard_agg w op 47 x y xs ys (by kernel_rfl)
theorem ne47 (a0 b0 : Int) (a1 b1 : Int) (a2 b2 : Int) (a3 b3 : Int) (w : World) : (binOp .neq 47 (.agg #[.int .i64 a0, .int .i64 a1, .int .i64 a2, .int .i64 a3]) (.agg #[.int .i64 b0, .int .i64 b1, .int .i64 b2, .int .i64 b3])).run Tryd.prog w = .ok (.bool (!(decide (a0 = b0) && decide (a1 = b1) && decide (a2 = b2) && decide (a3 = b3)))) w := by
  simp [run_neq_struct, run_equalIn_agg, Tryd.underlying47, Tryd.stoodInHeld47, Program.fieldsOf, go_sem]
  (repeat' split) <;> simp_all
set_option maxHeartbeats 4000000 in
theorem refEqPol_any (w : World) (A B : Option Addr) (c d : Nat) (l m : List PN) (hl : Rdl w 0 4 pnCells A l) (hm : Rdl w 0 4 pnCells B m) (hlm : l.length ≤ maxLen) : Calls Tryd.prog 14 #[.agg #[.slice A l.length c], .agg #[.slice B m.length d]] w fun e w' => e = .returned (.bool (decide (l = m))) ∧ Below w.heap.size w w' := by
  have hmx : maxLen = 9223372036854775807 := rfl
  refine gcalls Tryd.func14 rfl Tryd.ntmps14 (Nat.le_of_ble_eq_true rfl) ?_
  refine gfrom [(0, .agg #[_]), (1, .agg #[_])] ⟨rfl, rfl, trivial⟩ fun σ => ?_
  refine gseq fun N1 hN1 => ?_
  refine greg ?_
  refine gop_box (v := .agg #[_]) (cs := #[_]) rfl rfl rfl (fun b2 hb2 => ?_)
  refine gop_box (v := .agg #[_]) (cs := #[_]) rfl rfl rfl (fun b3 hb3 => ?_)
  refine gop (y_assign (v := .bool _) rfl) rfl rfl rfl ?_
  refine gops_nil ?_
  refine hN1 _ _ ?_
  refine gT [box b2 _, box b3 _] rfl ?_
  refine gfrom [(2, .pointer _), (3, .pointer _)] ⟨rfl, rfl, trivial⟩ fun σ => ?_
  refine gseq fun N2 hN2 => ?_
  refine gseq fun N3 hN3 => ?_
  refine greg ?_
  refine gop (y_fieldAddr_box fa24_0 rfl) rfl rfl rfl ?_
  refine gop (y_load Tryd.isAgg22 rfl (cell_box 0 rfl rfl)) rfl rfl rfl ?_
  refine gop (y_len Tryd.underlying22 rfl) rfl rfl rfl ?_
  refine gop (y_fieldAddr_box fa24_0 rfl) rfl rfl rfl ?_
  refine gop (y_load Tryd.isAgg22 rfl (cell_box 1 rfl rfl)) rfl rfl rfl ?_
  refine gop (y_len Tryd.underlying22 rfl) rfl rfl rfl ?_
  refine gop (y_neq rfl rfl) rfl rfl rfl ?_
  refine gops_nil ?_
  refine hN3 _ _ ?_
  refine gfrom [(2, .pointer _), (3, .pointer _), (12, .bool _)] ⟨rfl, rfl, rfl, trivial⟩ fun σ => ?_
  refine gcond (b := _) rfl (fun hc12 => ?_) (fun hc12 => ?_)
  · 
    replace hc12 := of_decide_eq_true hc12
    have hD : decide (l = m) = false := decide_eq_false (fun h => by rw [h] at hc12; exact hc12 rfl)
    refine gseq fun N4 hN4 => ?_
    refine greg ?_
    refine gop (y_assign (v := .bool _) rfl) rfl rfl rfl ?_
    refine gops_nil ?_
    refine hN4 _ _ ?_
    refine gfrom [(4, .bool _)] ⟨rfl, trivial⟩ fun σ => ?_
    refine gret fun w1 hM => ?_
    refine ⟨_, res1 rfl (rt (v := .bool _) rfl), ?_⟩
    exact ⟨by rw [hD], hM.low⟩
  · 
    replace hc12 := Decidable.not_not.1 (of_decide_eq_false hc12)
    have hlen : l.length = m.length := by omega
    refine gskip ?_
    refine hN2 _ _ ?_
    refine gfrom [(2, .pointer _), (3, .pointer _)] ⟨rfl, rfl, trivial⟩ fun σ => ?_
    refine gseq fun N5 hN5 => ?_
    refine gseq fun N6 hN6 => ?_
    refine greg ?_
    refine gop (y_assign (v := .int _ _) rfl) rfl rfl rfl ?_
    refine gops_nil ?_
    refine hN6 _ _ ?_
    refine gfrom [(2, .pointer _), (3, .pointer _), (5, .int _ _)] ⟨rfl, rfl, rfl, trivial⟩ fun σ => ?_
    refine gblock ?_
    refine gfrom2 [(5, .int _ _)] [(2, .pointer _), (3, .pointer _)] ⟨rfl, trivial⟩ ⟨rfl, rfl, trivial⟩ fun σ => ?_
    refine gloop2 (G := Nat) (fun k => k ≤ l.length ∧ ∀ j (h1 : j < l.length) (h2 : j < m.length), j < k → l[j] = m[j]) (fun k => l.length - k) (fun k => [(5, .int .i64 (k : Int))]) (fun k => []) (0) ?h0 ⟨rfl, trivial⟩ ⟨rfl, rfl, trivial⟩ rfl ?round
    case h0 => exact ⟨Nat.zero_le _, fun _ _ _ h => absurd h (by omega)⟩
    case round =>
      intro k hφ σ
      obtain ⟨hk, hz⟩ := hφ
      refine gseq fun N7 hN7 => ?_
      refine gseq fun N8 hN8 => ?_
      refine greg ?_
      refine gop (y_move (v := .int _ _) rfl) rfl rfl rfl ?_
      refine gop (y_fieldAddr_box fa24_0 rfl) rfl rfl rfl ?_
      refine gop (y_load Tryd.isAgg22 rfl (cell_box 0 rfl rfl)) rfl rfl rfl ?_
      refine gop (y_len Tryd.underlying22 rfl) rfl rfl rfl ?_
      refine gop (y_lss rfl rfl) rfl rfl rfl ?_
      refine gops_nil ?_
      refine hN8 _ _ ?_
      refine gfrom [(2, .pointer _), (3, .pointer _), (5, .int _ _), (17, .bool _)] ⟨rfl, rfl, rfl, rfl, trivial⟩ fun σ => ?_
      refine gcond (b := _) rfl (fun hc17 => ?_) (fun hc17 => ?_)
      · 
        replace hc17 := of_decide_eq_true hc17
        have hk1 : k < l.length := by omega
        have hk2 : k < m.length := by omega
        obtain ⟨ad, rfl, -, hca⟩ := hl.at_ hk1
        obtain ⟨bd, rfl, -, hcb⟩ := hm.at_ hk2
        refine gskip ?_
        refine hN7 _ _ ?_
        refine gfrom [(2, .pointer _), (3, .pointer _), (5, .int _ _)] ⟨rfl, rfl, rfl, trivial⟩ fun σ => ?_
        refine gseq fun N9 hN9 => ?_
        refine gblock ?_
        refine gseq fun N10 hN10 => ?_
        refine greg_q (by kernel_rfl) (by kernel_rfl) ?_
        refine gq (y_fieldAddr_box fa24_0 rfl) rfl rfl rfl ?_
        refine gq (y_load Tryd.isAgg22 rfl (cell_box 0 rfl rfl)) rfl rfl rfl ?_
        refine gq (y_move (v := .int _ _) rfl) rfl rfl rfl ?_
        refine gq (y_indexAddr (m := k) Tryd.underlying22 Tryd.sizeOf47 rfl rfl (by omega) (by omega) (by omega)) rfl rfl rfl ?_
        refine gq (y_loads (cs := [_, _, _, _]) Tryd.isAgg47 Tryd.sizeOf47 rfl rfl (cells_base hca)) rfl rfl rfl ?_
        refine gq (y_fieldAddr_box fa24_0 rfl) rfl rfl rfl ?_
        refine gq (y_load Tryd.isAgg22 rfl (cell_box 1 rfl rfl)) rfl rfl rfl ?_
        refine gq (y_move (v := .int _ _) rfl) rfl rfl rfl ?_
        refine gq (y_indexAddr (m := k) Tryd.underlying22 Tryd.sizeOf47 rfl rfl (by omega) (by omega) (by omega)) rfl rfl rfl ?_
        refine gq (y_loads (cs := [_, _, _, _]) Tryd.isAgg47 Tryd.sizeOf47 rfl rfl (cells_base hcb)) rfl rfl rfl ?_
        refine gq (y_bin (vx := .agg #[_, _, _, _]) (vy := .agg #[_, _, _, _]) rfl rfl (fun w => eg47 _ _ _ _ _ w) (fun w => ne47 _ _ _ _ _ _ _ _ w)) rfl rfl rfl ?_
        refine gqs_nil ?_
        refine hN10 _ _ ?_
        refine gfrom [(2, .pointer _), (3, .pointer _), (5, .int _ _), (30, .bool _)] ⟨rfl, rfl, rfl, rfl, trivial⟩ fun σ => ?_
        refine gcond (b := _) rfl (fun hc30 => ?_) (fun hc30 => ?_)
        · 
          rw [pn_same] at hc30
          have hne : l[k] ≠ m[k] := by simpa using hc30
          have hD : decide (l = m) = false := decide_eq_false (fun h => hne (by subst h; rfl))
          refine gseq fun N11 hN11 => ?_
          refine greg ?_
          refine gop (y_assign (v := .bool _) rfl) rfl rfl rfl ?_
          refine gops_nil ?_
          refine hN11 _ _ ?_
          refine gfrom [(4, .bool _)] ⟨rfl, trivial⟩ fun σ => ?_
          refine gret fun w1 hM => ?_
          refine ⟨_, res1 rfl (rt (v := .bool _) rfl), ?_⟩
          exact ⟨by rw [hD], hM.low⟩
        · 
          rw [pn_same] at hc30
          have heq : l[k] = m[k] := by simpa using hc30
          refine gskip ?_
          refine hN9 _ _ ?_
          refine gfrom [(2, .pointer _), (3, .pointer _), (5, .int _ _)] ⟨rfl, rfl, rfl, trivial⟩ fun σ => ?_
          refine greg ?_
          refine gop (y_move (v := .int _ _) rfl) rfl rfl rfl ?_
          refine gop (y_add rfl rfl ⟨by omega, by omega⟩) rfl rfl rfl ?_
          refine gop (y_assign (v := .int _ _) rfl) rfl rfl rfl ?_
          refine gops_nil ?_
          refine gnext2 (k + 1) (by omega) (⟨by show k + 1 ≤ _; omega, fun j h1 h2 hj => by rcases Nat.lt_succ_iff_lt_or_eq.1 hj with h3 | rfl; exact hz j h1 h2 h3; exact heq⟩) ⟨rfl, trivial⟩ ⟨rfl, rfl, trivial⟩ ⟨_, rfl⟩
      · 
        replace hc17 := of_decide_eq_false hc17
        have hD : decide (l = m) = true := decide_eq_true (List.ext_getElem hlen fun j h1 h2 => hz j h1 h2 (by omega))
        refine gexit ?_
        refine hN5 _ _ ?_
        refine gfrom [] trivial fun σ => ?_
        refine gseq fun N12 hN12 => ?_
        refine greg ?_
        refine gop (y_assign (v := .bool _) rfl) rfl rfl rfl ?_
        refine gops_nil ?_
        refine hN12 _ _ ?_
        refine gfrom [(4, .bool _)] ⟨rfl, trivial⟩ fun σ => ?_
        refine gret fun w1 hM => ?_
        refine ⟨_, res1 rfl (rt (v := .bool _) rfl), ?_⟩
        exact ⟨by rw [hD], hM.low⟩
end Go.Proofs.YtllblbkbglifjaaDoor
namespace Go.Cf
abbrev exPs : ByteArray := ⟨#[110, 111, 116, 32, 40, 116, 101, 115, 116, 115, 32, 97, 110, 100, 32, 111, 119, 110, 101, 114, 115, 41]⟩
abbrev exPs2 : ByteArray := ⟨#[110, 111, 116, 32, 116, 101, 115, 116, 115, 32, 111, 114, 32, 110, 111, 116, 32, 111, 119, 110, 101, 114, 115]⟩
def exPn : List PN := post (.neg (.bin 6 (.leaf 3 0) (.leaf 2 0))) 0
def exQn : List PN := post (.bin 7 (.neg (.leaf 3 0)) (.neg (.leaf 2 0))) 0
theorem ex_par : parR exPs = (⟨0, 0⟩, exPn) := by rfl
theorem ex_nor : norR exPn = (⟨0, 0⟩, exQn) := by rfl
theorem ex_fmt : fmtR exPn = (⟨0, 0⟩, exPs.data.toList) := by rfl
theorem ex_fmt2 : fmtR exQn = (⟨0, 0⟩, exPs2.data.toList) := by rfl
theorem ex_ev : evalF exPn ⟨0, false, true, 0⟩ = ⟨0, 0⟩ ∧ evalV exPn ⟨0, false, true, 0⟩ = true := by constructor <;> rfl
theorem ex_t1 : baL (fmtR (parR exPs).2).2 = exPs := by rw [ex_par, ex_fmt]; rfl
theorem ex_t2 : baL (fmtR (norR (parR exPs).2).2).2 = exPs2 := by rw [ex_par, ex_nor, ex_fmt2]; rfl
theorem ex_v : evalV (parR exPs).2 ⟨0, false, true, 0⟩ = true := by rw [ex_par]; exact ex_ev.2
end Go.Cf
namespace Go.Proofs.YtllblbkbglifjaaDoor
open Go.RowKit Go.Cf
set_option maxRecDepth 10000
theorem bd26_2 (x1 : Bool) : Tryd.prog.built 26 [(2, .bool x1)] = some #[.int .i64 0, .bool false, .bool x1, .int .i64 0] := by kernel_rfl
theorem fa28_0 (a : Addr) (w : World) : (Instr.fieldAt 28 (.pointer (some a)) 0).run Tryd.prog w = .ok (.pointer (some (a.add 0))) w := by kernel_rfl
set_option maxHeartbeats 4000000 in
theorem policyExample_any (w : World) (hL : LaidP w) : Calls Tryd.prog 12 #[] w fun e w' => e = .returned (.bool true) ∧ Below w.heap.size w w' := by
  refine gcalls Tryd.func12 rfl Tryd.ntmps12 (Nat.le_of_ble_eq_true rfl) ?_
  refine gfrom [] trivial fun σ => ?_
  refine gseq fun N1 hN1 => ?_
  refine greg ?_
  refine gop (y_assign (v := .bool _) rfl) rfl rfl rfl ?_
  refine gops_nil ?_
  refine hN1 _ _ ?_
  refine gfrom [] trivial fun σ => ?_
  refine gseq fun N2 hN2 => ?_
  refine greg ?_
  refine gop_new (fun lo ws v => ∃ v1, v = .tuple #[.agg #[v1], fv (parR exPs).1] ∧ NewL 4 pnCells (parR exPs).2 lo ws v1) (e_call (vs := [_]) Tryd.func19 rfl (by kernel_rfl) rfl) (fun w hM => by have hc := polParse_any w exPs (hL.base hM) (by decide); exact hc.mono fun _ _ ⟨v1, h1, h2, h3⟩ => ⟨_, h1, h2, v1, rfl, h3⟩) rfl rfl rfl ?_
  rintro _ lo12 ws12 hlo12 ⟨_, rfl, A12, c12, rfl, hcc12, hcm12, hr12⟩
  refine gop (y_move (v := .tuple #[.agg #[.slice _ _ _], .agg #[_, _]]) rfl) rfl rfl rfl ?_
  refine gop (y_extract (v := .agg #[_]) rfl rfl) rfl rfl rfl ?_
  refine gop (y_extract (v := .agg #[_, _]) rfl rfl) rfl rfl rfl ?_
  refine gop_alloc (cs := #[.slice none 0 0]) Tryd.zeroValue24 rfl rfl (fun b1 hb1 => ?_)
  refine gop_alloc (cs := #[.int .i64 0, .int .i64 0]) Tryd.zeroValue28 rfl rfl (fun b2 hb2 => ?_)
  refine gop_store 1 (v := .agg #[_]) (cs' := #[_]) rfl rfl Tryd.sizeOf24 rfl rfl rfl rfl (Nat.le_of_ble_eq_true rfl) rfl rfl ?_
  refine gop_store 2 (v := .agg #[_, _]) (cs' := #[_, _]) rfl rfl Tryd.sizeOf28 rfl rfl rfl rfl (Nat.le_of_ble_eq_true rfl) rfl rfl ?_
  refine gops_nil ?_
  refine hN2 _ _ ?_
  refine gT [seal_ _ _, box b1 _, box b2 _] rfl ?_
  refine gfrom [(1, .pointer _), (2, .pointer _)] ⟨rfl, rfl, trivial⟩ fun σ => ?_
  refine gseq fun N3 hN3 => ?_
  refine greg ?_
  refine gop (y_loads (cs := [_]) Tryd.isAgg24 Tryd.sizeOf24 rfl rfl (cells_box 1 rfl)) rfl rfl rfl ?_
  refine gop_pure (e_call (vs := [.agg #[_]]) Tryd.func9 rfl (by kernel_rfl) rfl) (fun w hM => polFormat_any w A12 c12 (parR exPs).2 ((hr12.seal_ 0 rfl (Nat.le_refl _) hM).mono (Nat.zero_le _)) hcc12 hcm12) rfl rfl rfl ?_
  refine gop (y_move (v := .tuple #[.string _, .agg #[_, _]]) rfl) rfl rfl rfl ?_
  refine gop (y_extract (v := .string _) rfl rfl) rfl rfl rfl ?_
  refine gop (y_extract (v := .agg #[_, _]) rfl rfl) rfl rfl rfl ?_
  refine gop_alloc (cs := #[.int .i64 0, .int .i64 0]) Tryd.zeroValue28 rfl rfl (fun b4 hb4 => ?_)
  refine gop (y_assign (v := .string _) rfl) rfl rfl rfl ?_
  refine gop_store 3 (v := .agg #[_, _]) (cs' := #[_, _]) rfl rfl Tryd.sizeOf28 rfl rfl rfl rfl (Nat.le_of_ble_eq_true rfl) rfl rfl ?_
  refine gops_nil ?_
  refine hN3 _ _ ?_
  refine gT [seal_ _ _, box b1 _, box b2 _, box b4 _] rfl ?_
  refine gfrom [(1, .pointer _), (2, .pointer _), (3, .string _), (4, .pointer _)] ⟨rfl, rfl, rfl, rfl, trivial⟩ fun σ => ?_
  refine gseq fun N4 hN4 => ?_
  refine greg ?_
  refine gop (y_loads (cs := [_]) Tryd.isAgg24 Tryd.sizeOf24 rfl rfl (cells_box 1 rfl)) rfl rfl rfl ?_
  refine gop_new (fun lo ws v => ∃ v1, v = .tuple #[.agg #[v1], fv (norR (parR exPs).2).1] ∧ NewL 4 pnCells (norR (parR exPs).2).2 lo ws v1) (e_call (vs := [.agg #[_]]) Tryd.func11 rfl (by kernel_rfl) rfl) (fun w hM => by have hc := polNormal_any w A12 c12 (parR exPs).2 ((hr12.seal_ 0 rfl (Nat.le_refl _) hM).mono (Nat.zero_le _)) hcc12 hcm12; exact hc.mono fun _ _ ⟨v1, h1, h2, h3⟩ => ⟨_, h1, h2, v1, rfl, h3⟩) rfl rfl rfl ?_
  rintro _ lo22 ws22 hlo22 ⟨_, rfl, A22, c22, rfl, hcc22, hcm22, hr22⟩
  refine gop (y_move (v := .tuple #[.agg #[.slice _ _ _], .agg #[_, _]]) rfl) rfl rfl rfl ?_
  refine gop (y_extract (v := .agg #[_]) rfl rfl) rfl rfl rfl ?_
  refine gop (y_extract (v := .agg #[_, _]) rfl rfl) rfl rfl rfl ?_
  refine gop_alloc (cs := #[.slice none 0 0]) Tryd.zeroValue24 rfl rfl (fun b5 hb5 => ?_)
  refine gop_alloc (cs := #[.int .i64 0, .int .i64 0]) Tryd.zeroValue28 rfl rfl (fun b6 hb6 => ?_)
  refine gop_store 5 (v := .agg #[_]) (cs' := #[_]) rfl rfl Tryd.sizeOf24 rfl rfl rfl rfl (Nat.le_of_ble_eq_true rfl) rfl rfl ?_
  refine gop_store 6 (v := .agg #[_, _]) (cs' := #[_, _]) rfl rfl Tryd.sizeOf28 rfl rfl rfl rfl (Nat.le_of_ble_eq_true rfl) rfl rfl ?_
  refine gops_nil ?_
  refine hN4 _ _ ?_
  refine gT [seal_ _ _, box b1 _, box b2 _, box b4 _, seal_ _ _, box b5 _, box b6 _] rfl ?_
  refine gfrom [(1, .pointer _), (2, .pointer _), (3, .string _), (4, .pointer _), (5, .pointer _), (6, .pointer _)] ⟨rfl, rfl, rfl, rfl, rfl, rfl, trivial⟩ fun σ => ?_
  refine gseq fun N5 hN5 => ?_
  refine greg ?_
  refine gop (y_loads (cs := [_]) Tryd.isAgg24 Tryd.sizeOf24 rfl rfl (cells_box 5 rfl)) rfl rfl rfl ?_
  refine gop_pure (e_call (vs := [.agg #[_]]) Tryd.func9 rfl (by kernel_rfl) rfl) (fun w hM => polFormat_any w A22 c22 (norR (parR exPs).2).2 ((hr22.seal_ 4 rfl (Nat.le_refl _) hM).mono (Nat.zero_le _)) hcc22 hcm22) rfl rfl rfl ?_
  refine gop (y_move (v := .tuple #[.string _, .agg #[_, _]]) rfl) rfl rfl rfl ?_
  refine gop (y_extract (v := .string _) rfl rfl) rfl rfl rfl ?_
  refine gop (y_extract (v := .agg #[_, _]) rfl rfl) rfl rfl rfl ?_
  refine gop_alloc (cs := #[.int .i64 0, .int .i64 0]) Tryd.zeroValue28 rfl rfl (fun b8 hb8 => ?_)
  refine gop (y_assign (v := .string _) rfl) rfl rfl rfl ?_
  refine gop_store 7 (v := .agg #[_, _]) (cs' := #[_, _]) rfl rfl Tryd.sizeOf28 rfl rfl rfl rfl (Nat.le_of_ble_eq_true rfl) rfl rfl ?_
  refine gops_nil ?_
  refine hN5 _ _ ?_
  refine gT [seal_ _ _, box b1 _, box b2 _, box b4 _, seal_ _ _, box b5 _, box b6 _, box b8 _] rfl ?_
  refine gfrom [(1, .pointer _), (2, .pointer _), (3, .string _), (4, .pointer _), (6, .pointer _), (7, .string _), (8, .pointer _)] ⟨rfl, rfl, rfl, rfl, rfl, rfl, rfl, trivial⟩ fun σ => ?_
  refine gseq fun N6 hN6 => ?_
  refine greg ?_
  refine gop (y_loads (cs := [_]) Tryd.isAgg24 Tryd.sizeOf24 rfl rfl (cells_box 1 rfl)) rfl rfl rfl ?_
  refine gop (y_build (vs := [(2, _)]) (cells := #[.int .i64 0, .bool false, _, .int .i64 0]) rfl (bd26_2 _)) rfl rfl rfl ?_
  refine gop_pure (e_call (vs := [.agg #[_], .agg #[_, _, _, _]]) Tryd.func10 rfl (by kernel_rfl) rfl) (fun w hM => polEval_any w A12 c12 (parR exPs).2 ((hr12.seal_ 0 rfl (Nat.le_refl _) hM).mono (Nat.zero_le _)) hcc12 hcm12 ⟨0, false, true, 0⟩) rfl rfl rfl ?_
  refine gop (y_move (v := .tuple #[.bool _, .agg #[_, _]]) rfl) rfl rfl rfl ?_
  refine gop (y_extract (v := .bool _) rfl rfl) rfl rfl rfl ?_
  refine gop (y_extract (v := .agg #[_, _]) rfl rfl) rfl rfl rfl ?_
  refine gop_alloc (cs := #[.int .i64 0, .int .i64 0]) Tryd.zeroValue28 rfl rfl (fun b10 hb10 => ?_)
  refine gop (y_assign (v := .bool _) rfl) rfl rfl rfl ?_
  refine gop_store 8 (v := .agg #[_, _]) (cs' := #[_, _]) rfl rfl Tryd.sizeOf28 rfl rfl rfl rfl (Nat.le_of_ble_eq_true rfl) rfl rfl ?_
  refine gops_nil ?_
  refine hN6 _ _ ?_
  refine gT [seal_ _ _, box b1 _, box b2 _, box b4 _, seal_ _ _, box b5 _, box b6 _, box b8 _, box b10 _] rfl ?_
  refine gfrom [(2, .pointer _), (3, .string _), (4, .pointer _), (6, .pointer _), (7, .string _), (8, .pointer _), (9, .bool _), (10, .pointer _)] ⟨rfl, rfl, rfl, rfl, rfl, rfl, rfl, rfl, trivial⟩ fun σ => ?_
  refine gseq fun N7 hN7 => ?_
  refine greg ?_
  refine gop (y_fieldAddr_box fa28_0 rfl) rfl rfl rfl ?_
  refine gop (y_load Tryd.isAgg3 rfl (cell_box 2 rfl rfl)) rfl rfl rfl ?_
  refine gop (y_eql rfl rfl) rfl rfl rfl ?_
  refine gop (y_move (v := .bool _) rfl) rfl rfl rfl ?_
  refine gop_if (want := true) rfl rfl rfl rfl rfl rfl (fun hg39 => ?_) (fun hg39 => ?_)
  · 
    have hg39d := of_decide_eq_true hg39
    refine gop (y_bare (y_fieldAddr_box fa28_0 rfl)) rfl rfl rfl ?_
    refine gop_on rfl rfl rfl rfl hg39 ?_
    refine gop (y_bare (y_load Tryd.isAgg3 rfl (cell_box 3 rfl rfl))) rfl rfl rfl ?_
    refine gop_on rfl rfl rfl rfl hg39 ?_
    refine gop (y_bare (y_eql rfl rfl)) rfl rfl rfl ?_
    refine gop (y_pick_t (v := .bool _) rfl hg39 rfl) rfl rfl rfl ?_
    refine gop (y_move (v := .bool _) rfl) rfl rfl rfl ?_
    refine gop_if (want := true) rfl rfl rfl rfl rfl rfl (fun hg44 => ?_) (fun hg44 => ?_)
    · 
      have hg44d := of_decide_eq_true hg44
      refine gop (y_bare (y_fieldAddr_box fa28_0 rfl)) rfl rfl rfl ?_
      refine gop_on rfl rfl rfl rfl hg44 ?_
      refine gop (y_bare (y_load Tryd.isAgg3 rfl (cell_box 6 rfl rfl))) rfl rfl rfl ?_
      refine gop_on rfl rfl rfl rfl hg44 ?_
      refine gop (y_bare (y_eql rfl rfl)) rfl rfl rfl ?_
      refine gop (y_pick_t (v := .bool _) rfl hg44 rfl) rfl rfl rfl ?_
      refine gop (y_move (v := .bool _) rfl) rfl rfl rfl ?_
      refine gop_if (want := true) rfl rfl rfl rfl rfl rfl (fun hg49 => ?_) (fun hg49 => ?_)
      · 
        have hg49d := of_decide_eq_true hg49
        refine gop (y_bare (y_fieldAddr_box fa28_0 rfl)) rfl rfl rfl ?_
        refine gop_on rfl rfl rfl rfl hg49 ?_
        refine gop (y_bare (y_load Tryd.isAgg3 rfl (cell_box 7 rfl rfl))) rfl rfl rfl ?_
        refine gop_on rfl rfl rfl rfl hg49 ?_
        refine gop (y_bare (y_eql rfl rfl)) rfl rfl rfl ?_
        refine gop (y_pick_t (v := .bool _) rfl hg49 rfl) rfl rfl rfl ?_
        refine gop (y_move (v := .bool _) rfl) rfl rfl rfl ?_
        refine gop_if (want := true) rfl rfl rfl rfl rfl rfl (fun hg54 => ?_) (fun hg54 => ?_)
        · 
          have hg54d := of_decide_eq_true hg54
          refine gop (y_bare (y_fieldAddr_box fa28_0 rfl)) rfl rfl rfl ?_
          refine gop_on rfl rfl rfl rfl hg54 ?_
          refine gop (y_bare (y_load Tryd.isAgg3 rfl (cell_box 8 rfl rfl))) rfl rfl rfl ?_
          refine gop_on rfl rfl rfl rfl hg54 ?_
          refine gop (y_bare (y_eql rfl rfl)) rfl rfl rfl ?_
          refine gop (y_pick_t (v := .bool _) rfl hg54 rfl) rfl rfl rfl ?_
          refine gop (y_move (v := .bool _) rfl) rfl rfl rfl ?_
          refine gop_if (want := true) rfl rfl rfl rfl rfl rfl (fun hg59 => ?_) (fun hg59 => ?_)
          · 
            have hg59d := of_decide_eq_true hg59
            refine gop (y_bare (y_move (v := .string _) rfl)) rfl rfl rfl ?_
            refine gop_on rfl rfl rfl rfl hg59 ?_
            refine gop (y_bare (y_eqls rfl rfl)) rfl rfl rfl ?_
            refine gop (y_pick_t (v := .bool _) rfl hg59 rfl) rfl rfl rfl ?_
            refine gop (y_move (v := .bool _) rfl) rfl rfl rfl ?_
            refine gop_if (want := true) rfl rfl rfl rfl rfl rfl (fun hg63 => ?_) (fun hg63 => ?_)
            · 
              have hg63d := hg63
              refine gop (y_bare (y_move (v := .string _) rfl)) rfl rfl rfl ?_
              refine gop_on rfl rfl rfl rfl hg63 ?_
              refine gop (y_bare (y_eqls rfl rfl)) rfl rfl rfl ?_
              refine gop (y_pick_t (v := .bool _) rfl hg63 rfl) rfl rfl rfl ?_
              refine gop (y_move (v := .bool _) rfl) rfl rfl rfl ?_
              refine gop_if (want := true) rfl rfl rfl rfl rfl rfl (fun hg67 => ?_) (fun hg67 => ?_)
              · 
                have hg67d := hg67
                refine gop (y_bare (y_move (v := .bool _) rfl)) rfl rfl rfl ?_
                refine gop (y_pick_t (v := .bool _) rfl hg67 rfl) rfl rfl rfl ?_
                refine gop (y_assign (v := .bool _) rfl) rfl rfl rfl ?_
                refine gops_nil ?_
                refine hN7 _ _ ?_
                refine gfrom [(0, .bool _)] ⟨rfl, trivial⟩ fun σ => ?_
                refine gret fun w1 hM => ?_
                refine ⟨_, res1 rfl (rt (v := .bool _) rfl), ?_⟩
                exact ⟨by rw [ex_v], hM.low⟩
              · 
                 exact absurd hg67 (by rw [ex_t2]; simp)
            · 
               exact absurd hg63 (by rw [ex_t1]; simp)
          · 
             exact absurd hg59 (by simp [ex_par, ex_nor, ex_fmt, ex_fmt2, ex_ev])
        · 
           exact absurd hg54 (by simp [ex_par, ex_nor, ex_fmt, ex_fmt2, ex_ev])
      · 
         exact absurd hg49 (by simp [ex_par, ex_nor, ex_fmt, ex_fmt2, ex_ev])
    · 
       exact absurd hg44 (by simp [ex_par, ex_nor, ex_fmt, ex_fmt2, ex_ev])
  · 
     exact absurd hg39 (by simp [ex_par, ex_nor, ex_fmt, ex_fmt2, ex_ev])
end Go.Proofs.YtllblbkbglifjaaDoor
