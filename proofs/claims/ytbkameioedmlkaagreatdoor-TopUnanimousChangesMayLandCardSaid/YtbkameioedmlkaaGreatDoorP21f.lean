/- Own frame, plain models and walks, part 6 (texts of this claim put together). -/
import Derived.Test.YtbkameioedmlkaaGreatDoorP21e
namespace Go.Proofs.YtbkameioedmlkaaGreatDoor
open Go.RowKit Go.Cf
set_option maxRecDepth 10000
theorem fa124_0 (a : Addr) (w : World) : (Instr.fieldAt 124 (.pointer (some a)) 0).run Tryz.prog w = .ok (.pointer (some (a.add 0))) w := by kernel_rfl
theorem bd48_0_1 (x1 : Int) (x2 : Int) : Tryz.prog.built 48 [(0, .int .i64 x1), (1, .int .i64 x2)] = some #[.int .i64 x1, .int .i64 x2, .int .i64 0, .int .i64 0] := by kernel_rfl
set_option maxHeartbeats 8000000 in
theorem rdNumber_any (w0 w : World) (rg bc : Nat) (B : Option Addr) (s : ByteArray) (code : Int) (o : List PN) (fr : Reg) (hs : s.size ≤ 200) (a : Nat) (ts : List Tk) (hrs : RS s a ts) (kd : Int) (hol : o.length ≤ 900) (hL : LaidP w0) (hM0 : Mem w0 [box rg (.cells #[.slice B o.length bc, .string s, .int .i64 ((a : Nat)), .int .i64 ((nextW s (a) : Nat)), .int .i64 code] 124), rowl pnCells w0.heap.size 48 4 (.slice B (o).length bc) (o), fr] w) :
    Calls Tryz.prog 117 #[.pointer (some ⟨rg, 0, none⟩), .int .i64 kd] w fun e w' => ∃ x b B' bc' o' a' code', e = .returned (.tuple #[.int .i64 x, .bool b]) ∧ POK s (numR s.size kd ts) o code x b o' a' code' ∧ Mem w0 [box rg (.cells #[.slice B' o'.length bc', .string s, .int .i64 ((a' : Nat)), .int .i64 ((nextW s (a') : Nat)), .int .i64 code'] 124), rowl pnCells w0.heap.size 48 4 (.slice B' (o').length bc') (o'), fr] w' := by
  have hhd : (hd ts).size ≤ 200 := by rw [← hrs.hd, ByteArray.size_extract]; omega
  refine gcallsT Tryz.func117 rfl Tryz.ntmps117 (Nat.le_of_ble_eq_true rfl) hM0 ?_
  refine gfrom [(0, .pointer (some ⟨rg, 0, none⟩)), (1, .int _ _)] ⟨rfl, rfl, trivial⟩ fun σ => ?_
  refine gseq fun N1 hN1 => ?_
  refine greg ?_
  refine gop (y_assign (v := .int _ _) rfl) rfl rfl rfl ?_
  refine gop (y_assign (v := .bool _) rfl) rfl rfl rfl ?_
  refine gops_nil ?_
  refine hN1 _ _ ?_
  refine gfrom [(0, .pointer (some ⟨rg, 0, none⟩)), (1, .int _ _)] ⟨rfl, rfl, trivial⟩ fun σ => ?_
  refine gseq fun N2 hN2 => ?_
  refine greg ?_
  refine gop (y_move (v := .pointer (some ⟨rg, 0, none⟩)) rfl) rfl rfl rfl ?_
  refine gop_pure (e_call (vs := [.pointer (some ⟨rg, 0, none⟩)]) Tryz.func118 rfl (by kernel_rfl) rfl) (fun w hM => (by have h9 := rdWord_any w rg s _ _ (next_ge _ _) (next_le hrs.le) (cell_box (w0 := w0) 0 (off := 1) rfl rfl w hM) (cell_box (w0 := w0) 0 (off := 2) rfl rfl w hM) (cell_box (w0 := w0) 0 (off := 3) rfl rfl w hM); rw [hrs.hd] at h9; exact h9)) rfl rfl rfl ?_
  refine gop (y_assign (v := .string _) rfl) rfl rfl rfl ?_
  refine gops_nil ?_
  refine hN2 _ _ ?_
  refine gfrom [(0, .pointer (some ⟨rg, 0, none⟩)), (1, .int _ _), (6, .string _)] ⟨rfl, rfl, rfl, trivial⟩ fun σ => ?_
  refine gseq fun N3 hN3 => ?_
  refine greg ?_
  refine gop (y_move (v := .string _) rfl) rfl rfl rfl ?_
  refine gop_got (fun v T' => ∃ n er b, v = .tuple #[.int .i64 n, er] ∧ AtoiEnd (hd ts) n er b ∧ T' = []) (e_call (vs := [.string _]) Tryz.func143 rfl (by kernel_rfl) rfl) (fun w hM => (atoi_any w (hd ts) (by omega) (hL.base hM)).mono fun _ _ ⟨n, er, b, h1, h2, h3⟩ => ⟨_, [], h1, ⟨n, er, b, rfl, h2, rfl⟩, mem_nil h3⟩) rfl rfl rfl ?_
  rintro _ _ ⟨n, er, b, rfl, hAE, rfl⟩
  refine gop (y_move (v := .tuple #[.int _ _, er]) rfl) rfl rfl rfl ?_
  refine gop (y_extract (v := .int _ _) rfl rfl) rfl rfl rfl ?_
  refine gop (y_extract (v := _) rfl rfl) rfl rfl rfl ?_
  refine gop (y_assign (v := .int _ _) rfl) rfl rfl rfl ?_
  refine gop (y_assign (v := _) rfl) rfl rfl rfl ?_
  refine gops_nil ?_
  refine hN3 _ _ ?_
  refine gfrom [(0, .pointer (some ⟨rg, 0, none⟩)), (1, .int _ _), (6, .string _), (7, .int _ _), (8, _)] ⟨rfl, rfl, rfl, rfl, rfl, trivial⟩ fun σ => ?_
  refine gseq fun N4 hN4 => ?_
  refine gseq fun N5 hN5 => ?_
  refine greg ?_
  refine gop (y_move (v := _) rfl) rfl rfl rfl ?_
  refine gop (y_errne (by kernel_rfl) hAE rfl rfl) rfl rfl rfl ?_
  refine gop (y_move (v := .bool _) rfl) rfl rfl rfl ?_
  refine gop_if (want := false) rfl rfl rfl rfl rfl rfl (fun hg18 => ?_) (fun hg18 => ?_)
  · 
    have hg18d := hg18
    refine gop (y_bare (y_move (v := .int _ _) rfl)) rfl rfl rfl ?_
    refine gop_on rfl rfl rfl rfl hg18 ?_
    refine gop_pure (e_call (vs := [.int _ _]) Tryz.func144 rfl (by kernel_rfl) rfl) (fun w hM => itoa_any w n (Lib.atoiAll_bounds (hAE.ok (by assumption))).1 (Lib.atoiAll_bounds (hAE.ok (by assumption))).2 (hL.base hM)) rfl rfl rfl ?_
    refine gop_on rfl rfl rfl rfl hg18 ?_
    refine gop (y_bare (y_move (v := .string _) rfl)) rfl rfl rfl ?_
    refine gop_on rfl rfl rfl rfl hg18 ?_
    refine gop (y_bare (y_neqs rfl rfl)) rfl rfl rfl ?_
    refine gop (y_pick_f (v := .bool _) rfl hg18 rfl) rfl rfl rfl ?_
    refine gops_nil ?_
    refine hN5 _ _ ?_
    refine gfrom [(0, .pointer (some ⟨rg, 0, none⟩)), (1, .int _ _), (7, .int _ _), (23, .bool _)] ⟨rfl, rfl, rfl, rfl, trivial⟩ fun σ => ?_
    refine gcond (b := _) rfl (fun hc23 => ?_) (fun hc23 => ?_)
    · 
      have hV : numV (hd ts) = none := by first | exact num_bad hAE (.inl (by assumption)) | exact num_bad hAE (.inr (fun h9 => by rw [h9] at hc23; simp at hc23))
      have hR : numR s.size kd ts = .bad 1 a := by
        rw [numR, hV]
        show Res.bad 1 (pos s.size ts) = _
        rw [hrs.pos]
      refine gseq fun N6 hN6 => ?_
      refine greg ?_
      refine gop (y_move (v := .pointer (some ⟨rg, 0, none⟩)) rfl) rfl rfl rfl ?_
      refine gop_does1 0 (fun v r G => v = .tuple #[.int .i64 0, .bool false] ∧ r = box rg (.cells #[.slice B o.length bc, .string s, .int .i64 ((a : Nat)), .int .i64 ((nextW s (a) : Nat)), .int .i64 1] 124) ∧ G = []) (e_call (vs := [.pointer (some ⟨rg, 0, none⟩), _]) Tryz.func56 rfl (by kernel_rfl) rfl) rfl (fun w fr1 hfr hM => (rdFail_any _ w rg _ _ _ s _ _ _ fr1 1 hM).mono fun _ _ ⟨h1, h2⟩ => ⟨_, _, [], h1, ⟨rfl, rfl, rfl⟩, h2⟩) rfl rfl rfl ?_
      rintro _ _ _ ⟨rfl, rfl, rfl⟩
      refine gop (y_extract (v := .int _ _) rfl rfl) rfl rfl rfl ?_
      refine gop (y_extract (v := .bool _) rfl rfl) rfl rfl rfl ?_
      refine gop (y_assign (v := .int _ _) rfl) rfl rfl rfl ?_
      refine gop (y_assign (v := .bool _) rfl) rfl rfl rfl ?_
      refine gops_nil ?_
      refine hN6 _ _ ?_
      refine gT [box rg _, rowl _ _ _ _ _ _, fr] rfl ?_
      refine gfrom [(4, .int _ _), (5, .bool _)] ⟨rfl, rfl, trivial⟩ fun σ => ?_
      refine gret fun w1 hM => ?_
      refine ⟨_, res2 rfl (rt (v := .int _ _) rfl) (rt (v := .bool _) rfl), ?_⟩
      exact ⟨_, _, B, bc, o, _, _, rfl, pok_bad hR (by omega), weak_take (T' := [_, _, fr]) rfl _ hM⟩
    · 
      have hV : numV (hd ts) = some n := num_good hAE (by assumption) (by rw [strEqP_dec] at hc23; simpa using hc23)
      refine gskip ?_
      refine hN4 _ _ ?_
      refine gfrom [(0, .pointer (some ⟨rg, 0, none⟩)), (1, .int _ _), (7, .int _ _)] ⟨rfl, rfl, rfl, trivial⟩ fun σ => ?_
      refine gseq fun N7 hN7 => ?_
      refine gseq fun N8 hN8 => ?_
      refine greg ?_
      refine gop (y_move (v := .int _ _) rfl) rfl rfl rfl ?_
      refine gop (y_lss rfl rfl) rfl rfl rfl ?_
      refine gop (y_move (v := .bool _) rfl) rfl rfl rfl ?_
      refine gop_if (want := false) rfl rfl rfl rfl rfl rfl (fun hg30 => ?_) (fun hg30 => ?_)
      · 
        have hg30d := of_decide_eq_false hg30
        refine gop (y_bare (y_move (v := .int _ _) rfl)) rfl rfl rfl ?_
        refine gop_on rfl rfl rfl rfl hg30 ?_
        refine gop (y_bare (y_move (v := .int _ _) rfl)) rfl rfl rfl ?_
        refine gop_on rfl rfl rfl rfl hg30 ?_
        refine gop_pure (e_call (vs := [.int _ _]) Tryz.func98 rfl (by kernel_rfl) rfl) (fun w hM => polMost_any w _) rfl rfl rfl ?_
        refine gop_on rfl rfl rfl rfl hg30 ?_
        refine gop (y_bare (y_gtr rfl rfl)) rfl rfl rfl ?_
        refine gop (y_pick_f (v := .bool _) rfl hg30 rfl) rfl rfl rfl ?_
        refine gops_nil ?_
        refine hN8 _ _ ?_
        refine gfrom [(0, .pointer (some ⟨rg, 0, none⟩)), (1, .int _ _), (7, .int _ _), (35, .bool _)] ⟨rfl, rfl, rfl, rfl, trivial⟩ fun σ => ?_
        refine gcond (b := _) rfl (fun hc35 => ?_) (fun hc35 => ?_)
        · 
          replace hc35 := of_decide_eq_true hc35
          have hR : numR s.size kd ts = .bad 3 a := by
            rw [numR, hV]
            show (if n < 0 ∨ mostN kd < n then Res.bad 3 (pos s.size ts) else _) = _
            rw [if_pos (by omega), hrs.pos]
          refine gseq fun N9 hN9 => ?_
          refine greg ?_
          refine gop (y_move (v := .pointer (some ⟨rg, 0, none⟩)) rfl) rfl rfl rfl ?_
          refine gop_does1 0 (fun v r G => v = .tuple #[.int .i64 0, .bool false] ∧ r = box rg (.cells #[.slice B o.length bc, .string s, .int .i64 ((a : Nat)), .int .i64 ((nextW s (a) : Nat)), .int .i64 3] 124) ∧ G = []) (e_call (vs := [.pointer (some ⟨rg, 0, none⟩), _]) Tryz.func56 rfl (by kernel_rfl) rfl) rfl (fun w fr1 hfr hM => (rdFail_any _ w rg _ _ _ s _ _ _ fr1 3 hM).mono fun _ _ ⟨h1, h2⟩ => ⟨_, _, [], h1, ⟨rfl, rfl, rfl⟩, h2⟩) rfl rfl rfl ?_
          rintro _ _ _ ⟨rfl, rfl, rfl⟩
          refine gop (y_extract (v := .int _ _) rfl rfl) rfl rfl rfl ?_
          refine gop (y_extract (v := .bool _) rfl rfl) rfl rfl rfl ?_
          refine gop (y_assign (v := .int _ _) rfl) rfl rfl rfl ?_
          refine gop (y_assign (v := .bool _) rfl) rfl rfl rfl ?_
          refine gops_nil ?_
          refine hN9 _ _ ?_
          refine gT [box rg _, rowl _ _ _ _ _ _, fr] rfl ?_
          refine gfrom [(4, .int _ _), (5, .bool _)] ⟨rfl, rfl, trivial⟩ fun σ => ?_
          refine gret fun w1 hM => ?_
          refine ⟨_, res2 rfl (rt (v := .int _ _) rfl) (rt (v := .bool _) rfl), ?_⟩
          exact ⟨_, _, B, bc, o, _, _, rfl, pok_bad hR (by omega), weak_take (T' := [_, _, fr]) rfl _ hM⟩
        · 
          replace hc35 := of_decide_eq_false hc35
          have hR : numR s.size kd ts = .ok (.leaf kd n) ts.tail := by
            rw [numR, hV]
            show (if n < 0 ∨ mostN kd < n then Res.bad 3 (pos s.size ts) else _) = _
            rw [if_neg (by omega)]
          refine gskip ?_
          refine hN7 _ _ ?_
          refine gfrom [(0, .pointer (some ⟨rg, 0, none⟩)), (1, .int _ _), (7, .int _ _)] ⟨rfl, rfl, rfl, trivial⟩ fun σ => ?_
          refine gseq fun N10 hN10 => ?_
          refine greg ?_
          refine gop (y_move (v := .pointer (some ⟨rg, 0, none⟩)) rfl) rfl rfl rfl ?_
          refine gop_does1 0 (fun v r G => v = .tuple #[] ∧ r = box rg (.cells #[.slice B o.length bc, .string s, .int .i64 ((skipW s (nextW s a) : Nat)), .int .i64 ((nextW s (skipW s (nextW s a)) : Nat)), .int .i64 code] 124) ∧ G = []) (e_call (vs := [.pointer (some ⟨rg, 0, none⟩)]) Tryz.func54 rfl (by kernel_rfl) rfl) rfl (fun w fr1 hfr hM => (rdScan_any _ w rg _ _ _ s _ fr1 hs _ _ _ rfl (next_le hrs.le) hM).mono fun _ _ ⟨h1, h2⟩ => ⟨_, _, [], h1, ⟨rfl, rfl, rfl⟩, h2⟩) rfl rfl rfl ?_
          rintro _ _ _ ⟨rfl, rfl, rfl⟩
          refine gops_nil ?_
          refine hN10 _ _ ?_
          refine gT [box rg _, rowl _ _ _ _ _ _, fr] rfl ?_
          refine gfrom [(0, .pointer (some ⟨rg, 0, none⟩)), (1, .int _ _), (7, .int _ _)] ⟨rfl, rfl, rfl, trivial⟩ fun σ => ?_
          refine gseq fun N11 hN11 => ?_
          refine greg ?_
          refine gop (y_move (v := .pointer (some ⟨rg, 0, none⟩)) rfl) rfl rfl rfl ?_
          refine gop (y_nilCheck rfl) rfl rfl rfl ?_
          refine gop (y_fieldAddr_box fa124_0 rfl) rfl rfl rfl ?_
          refine gop (y_move (v := .int _ _) rfl) rfl rfl rfl ?_
          refine gop (y_move (v := .int _ _) rfl) rfl rfl rfl ?_
          refine gop (y_build (vs := [(0, .int _ _), (1, .int _ _)]) (cells := #[_, _, .int .i64 0, .int .i64 0]) rfl (bd48_0_1 _ _)) rfl rfl rfl ?_
          refine gop_does2 0 1 (fun v r s1 G => ∃ B' bc', v = .int .i64 ((o).length : Nat) ∧ r = box rg (.cells #[.slice B' (o ++ [(⟨kd, n, 0, 0⟩ : PN)]).length bc', .string s, .int .i64 ((skipW s (nextW s a) : Nat)), .int .i64 ((nextW s (skipW s (nextW s a)) : Nat)), .int .i64 code] 124) ∧ s1 = rowl pnCells w0.heap.size 48 4 (.slice B' (o ++ [(⟨kd, n, 0, 0⟩ : PN)]).length bc') (o ++ [(⟨kd, n, 0, 0⟩ : PN)]) ∧ G = []) (e_call (vs := [.pointer _, .agg #[_, _, _, _]]) Tryz.func95 rfl (by kernel_rfl) rfl) rfl rfl rfl (fun w fr1 hfr hM => (polAdd5_any _ w rg _ _ s _ _ _ (o) fr1 hM (by omega) ((⟨kd, n, 0, 0⟩ : PN))).mono fun _ _ ⟨B', bc', h1, h2⟩ => ⟨_, _, _, [], h1, ⟨B', bc', rfl, rfl, rfl, rfl⟩, h2⟩) rfl rfl rfl ?_
          rintro _ _ _ _ ⟨B48, bc48, rfl, rfl, rfl, rfl⟩
          refine gop (y_assign (v := .int _ _) rfl) rfl rfl rfl ?_
          refine gop (y_assign (v := .bool _) rfl) rfl rfl rfl ?_
          refine gops_nil ?_
          refine hN11 _ _ ?_
          refine gT [box rg _, rowl _ _ _ _ _ _, fr] rfl ?_
          refine gfrom [(4, .int _ _), (5, .bool _)] ⟨rfl, rfl, trivial⟩ fun σ => ?_
          refine gret fun w1 hM => ?_
          refine ⟨_, res2 rfl (rt (v := .int _ _) rfl) (rt (v := .bool _) rfl), ?_⟩
          exact ⟨_, _, B48, bc48, _, _, _, rfl, pok_ok hR (by simp only [Tr.size]; omega) rfl hrs.next, weak_take (T' := [_, _, fr]) rfl _ hM⟩
      · 
        have hg30d := of_decide_eq_true hg30
        refine gop_off rfl rfl rfl rfl hg30 rfl rfl ?_
        refine gop_off rfl rfl rfl rfl hg30 rfl rfl ?_
        refine gop_off rfl rfl rfl rfl hg30 rfl rfl ?_
        refine gop (y_pick_t (v := .bool _) rfl hg30 rfl) rfl rfl rfl ?_
        refine gops_nil ?_
        refine hN8 _ _ ?_
        refine gfrom [(0, .pointer (some ⟨rg, 0, none⟩)), (1, .int _ _), (7, .int _ _), (35, .bool _)] ⟨rfl, rfl, rfl, rfl, trivial⟩ fun σ => ?_
        refine gcond (b := _) rfl (fun hc35 => ?_) (fun hc35 => ?_)
        · 
          have hR : numR s.size kd ts = .bad 3 a := by
            rw [numR, hV]
            show (if n < 0 ∨ mostN kd < n then Res.bad 3 (pos s.size ts) else _) = _
            rw [if_pos (by omega), hrs.pos]
          refine gseq fun N12 hN12 => ?_
          refine greg ?_
          refine gop (y_move (v := .pointer (some ⟨rg, 0, none⟩)) rfl) rfl rfl rfl ?_
          refine gop_does1 0 (fun v r G => v = .tuple #[.int .i64 0, .bool false] ∧ r = box rg (.cells #[.slice B o.length bc, .string s, .int .i64 ((a : Nat)), .int .i64 ((nextW s (a) : Nat)), .int .i64 3] 124) ∧ G = []) (e_call (vs := [.pointer (some ⟨rg, 0, none⟩), _]) Tryz.func56 rfl (by kernel_rfl) rfl) rfl (fun w fr1 hfr hM => (rdFail_any _ w rg _ _ _ s _ _ _ fr1 3 hM).mono fun _ _ ⟨h1, h2⟩ => ⟨_, _, [], h1, ⟨rfl, rfl, rfl⟩, h2⟩) rfl rfl rfl ?_
          rintro _ _ _ ⟨rfl, rfl, rfl⟩
          refine gop (y_extract (v := .int _ _) rfl rfl) rfl rfl rfl ?_
          refine gop (y_extract (v := .bool _) rfl rfl) rfl rfl rfl ?_
          refine gop (y_assign (v := .int _ _) rfl) rfl rfl rfl ?_
          refine gop (y_assign (v := .bool _) rfl) rfl rfl rfl ?_
          refine gops_nil ?_
          refine hN12 _ _ ?_
          refine gT [box rg _, rowl _ _ _ _ _ _, fr] rfl ?_
          refine gfrom [(4, .int _ _), (5, .bool _)] ⟨rfl, rfl, trivial⟩ fun σ => ?_
          refine gret fun w1 hM => ?_
          refine ⟨_, res2 rfl (rt (v := .int _ _) rfl) (rt (v := .bool _) rfl), ?_⟩
          exact ⟨_, _, B, bc, o, _, _, rfl, pok_bad hR (by omega), weak_take (T' := [_, _, fr]) rfl _ hM⟩
        · 
          cases hc35
  · 
    have hg18d := hg18
    refine gop_off rfl rfl rfl rfl hg18 rfl rfl ?_
    refine gop_off rfl rfl rfl rfl hg18 rfl rfl ?_
    refine gop_off rfl rfl rfl rfl hg18 rfl rfl ?_
    refine gop (y_pick_t (v := .bool _) rfl hg18 rfl) rfl rfl rfl ?_
    refine gops_nil ?_
    refine hN5 _ _ ?_
    refine gfrom [(0, .pointer (some ⟨rg, 0, none⟩)), (1, .int _ _), (7, .int _ _), (23, .bool _)] ⟨rfl, rfl, rfl, rfl, trivial⟩ fun σ => ?_
    refine gcond (b := _) rfl (fun hc23 => ?_) (fun hc23 => ?_)
    · 
      have hV : numV (hd ts) = none := by first | exact num_bad hAE (.inl (by assumption)) | exact num_bad hAE (.inr (fun h9 => by rw [h9] at hc23; simp at hc23))
      have hR : numR s.size kd ts = .bad 1 a := by
        rw [numR, hV]
        show Res.bad 1 (pos s.size ts) = _
        rw [hrs.pos]
      refine gseq fun N13 hN13 => ?_
      refine greg ?_
      refine gop (y_move (v := .pointer (some ⟨rg, 0, none⟩)) rfl) rfl rfl rfl ?_
      refine gop_does1 0 (fun v r G => v = .tuple #[.int .i64 0, .bool false] ∧ r = box rg (.cells #[.slice B o.length bc, .string s, .int .i64 ((a : Nat)), .int .i64 ((nextW s (a) : Nat)), .int .i64 1] 124) ∧ G = []) (e_call (vs := [.pointer (some ⟨rg, 0, none⟩), _]) Tryz.func56 rfl (by kernel_rfl) rfl) rfl (fun w fr1 hfr hM => (rdFail_any _ w rg _ _ _ s _ _ _ fr1 1 hM).mono fun _ _ ⟨h1, h2⟩ => ⟨_, _, [], h1, ⟨rfl, rfl, rfl⟩, h2⟩) rfl rfl rfl ?_
      rintro _ _ _ ⟨rfl, rfl, rfl⟩
      refine gop (y_extract (v := .int _ _) rfl rfl) rfl rfl rfl ?_
      refine gop (y_extract (v := .bool _) rfl rfl) rfl rfl rfl ?_
      refine gop (y_assign (v := .int _ _) rfl) rfl rfl rfl ?_
      refine gop (y_assign (v := .bool _) rfl) rfl rfl rfl ?_
      refine gops_nil ?_
      refine hN13 _ _ ?_
      refine gT [box rg _, rowl _ _ _ _ _ _, fr] rfl ?_
      refine gfrom [(4, .int _ _), (5, .bool _)] ⟨rfl, rfl, trivial⟩ fun σ => ?_
      refine gret fun w1 hM => ?_
      refine ⟨_, res2 rfl (rt (v := .int _ _) rfl) (rt (v := .bool _) rfl), ?_⟩
      exact ⟨_, _, B, bc, o, _, _, rfl, pok_bad hR (by omega), weak_take (T' := [_, _, fr]) rfl _ hM⟩
    · 
      cases hc23
end Go.Proofs.YtbkameioedmlkaaGreatDoor
namespace Go.Proofs.YtbkameioedmlkaaGreatDoor
open Go.RowKit Go.Cf
def ListH (w0 : World) (s : ByteArray) (rg n : Nat) : Prop := ∀ (lv : Nat) (vi : Int) (w : World) (B : Option Addr) (bc : Nat) (code : Int) (o : List PN) (fr : Reg) (a : Nat) (ts : List Tk), lv ≤ 2 → vi = (lv : Int) → 3 * ts.length + 3 ≤ n + lv → RS s a ts → o.length + ts.length ≤ 800 → Mem w0 [box rg (.cells #[.slice B o.length bc, .string s, .int .i64 ((a : Nat)), .int .i64 ((nextW s (a) : Nat)), .int .i64 code] 124), rowl pnCells w0.heap.size 48 4 (.slice B (o).length bc) (o), fr] w →
    Calls Tryz.prog 55 #[.pointer (some ⟨rg, 0, none⟩), .int .i64 vi] w fun e w' => ∃ x b B' bc' o' a' code', e = .returned (.tuple #[.int .i64 x, .bool b]) ∧ POK s (rd s.size n lv none ts) o code x b o' a' code' ∧ Mem w0 [box rg (.cells #[.slice B' o'.length bc', .string s, .int .i64 ((a' : Nat)), .int .i64 ((nextW s (a') : Nat)), .int .i64 code'] 124), rowl pnCells w0.heap.size 48 4 (.slice B' (o').length bc') (o'), fr] w'
def FacH (w0 : World) (s : ByteArray) (rg n : Nat) : Prop := ∀ (w : World) (B : Option Addr) (bc : Nat) (code : Int) (o : List PN) (fr : Reg) (a : Nat) (ts : List Tk), 3 * ts.length + 1 ≤ n → RS s a ts → o.length + ts.length ≤ 800 → Mem w0 [box rg (.cells #[.slice B o.length bc, .string s, .int .i64 ((a : Nat)), .int .i64 ((nextW s (a) : Nat)), .int .i64 code] 124), rowl pnCells w0.heap.size 48 4 (.slice B (o).length bc) (o), fr] w →
    Calls Tryz.prog 93 #[.pointer (some ⟨rg, 0, none⟩)] w fun e w' => ∃ x b B' bc' o' a' code', e = .returned (.tuple #[.int .i64 x, .bool b]) ∧ POK s (rd s.size n 2 none ts) o code x b o' a' code' ∧ Mem w0 [box rg (.cells #[.slice B' o'.length bc', .string s, .int .i64 ((a' : Nat)), .int .i64 ((nextW s (a') : Nat)), .int .i64 code'] 124), rowl pnCells w0.heap.size 48 4 (.slice B' (o').length bc') (o'), fr] w'
end Go.Proofs.YtbkameioedmlkaaGreatDoor
namespace Go.Proofs.YtbkameioedmlkaaGreatDoor
open Go.RowKit Go.Cf
set_option maxRecDepth 10000
theorem bd48_0_2 (x1 : Int) (x2 : Int) : Tryz.prog.built 48 [(0, .int .i64 x1), (2, .int .i64 x2)] = some #[.int .i64 x1, .int .i64 0, .int .i64 x2, .int .i64 0] := by kernel_rfl
theorem bd48_0 (x1 : Int) : Tryz.prog.built 48 [(0, .int .i64 x1)] = some #[.int .i64 x1, .int .i64 0, .int .i64 0, .int .i64 0] := by kernel_rfl
set_option maxHeartbeats 16000000 in
theorem rdFactor_step (w0 : World) (s : ByteArray) (hs : s.size ≤ 200) (hL : LaidP w0) (rg n : Nat) (hF : FacH w0 s rg n) (hLi : ListH w0 s rg n) : FacH w0 s rg (n + 1) := by
  intro w B bc code o fr a ts hfu hrs hol hM0
  have hrd : rd s.size (n + 1) 2 none ts = fac s.size (rd s.size n 2 none) (rd s.size n 0 none) ts := by rw [rd, if_pos rfl]
  refine gcallsT Tryz.func93 rfl Tryz.ntmps93 (Nat.le_of_ble_eq_true rfl) hM0 ?_
  refine gfrom [(0, .pointer (some ⟨rg, 0, none⟩))] ⟨rfl, trivial⟩ fun σ => ?_
  refine gseq fun N1 hN1 => ?_
  refine greg ?_
  refine gop (y_assign (v := .int _ _) rfl) rfl rfl rfl ?_
  refine gop (y_assign (v := .bool _) rfl) rfl rfl rfl ?_
  refine gops_nil ?_
  refine hN1 _ _ ?_
  refine gfrom [(0, .pointer (some ⟨rg, 0, none⟩))] ⟨rfl, trivial⟩ fun σ => ?_
  refine gseq fun N2 hN2 => ?_
  refine gblock ?_
  refine gseq fun N3 hN3 => ?_
  refine greg ?_
  refine gop (y_move (v := .pointer (some ⟨rg, 0, none⟩)) rfl) rfl rfl rfl ?_
  refine gop_does1 0 (fun v r G => ∃ a' ts', v = .bool (decide (hd ts = wNot)) ∧ r = box rg (.cells #[.slice B (o).length bc, .string s, .int .i64 ((a' : Nat)), .int .i64 ((nextW s (a') : Nat)), .int .i64 code] 124) ∧ RS s a' ts' ∧ ts' = (if hd ts = wNot then ts.tail else ts) ∧ G = []) (e_call (vs := [.pointer (some ⟨rg, 0, none⟩), _]) Tryz.func94 rfl (by kernel_rfl) rfl) rfl (fun w fr1 hfr hM => (rdTake_any _ w rg _ _ _ s _ fr1 hs _ ts hrs _ hM).mono fun _ _ ⟨a', ts', h1, h2, h3, h4⟩ => ⟨_, _, [], h1, ⟨a', ts', rfl, rfl, h2, h3, rfl⟩, h4⟩) rfl rfl rfl ?_
  rintro _ _ _ ⟨a10, ts10, rfl, rfl, hrs10, hts10, rfl⟩
  refine gop (y_assign (v := .bool _) rfl) rfl rfl rfl ?_
  refine gops_nil ?_
  refine hN3 _ _ ?_
  refine gT [box rg _, rowl _ _ _ _ _ _, fr] rfl ?_
  refine gfrom [(0, .pointer (some ⟨rg, 0, none⟩)), (8, .bool _)] ⟨rfl, rfl, trivial⟩ fun σ => ?_
  refine gcond (b := _) rfl (fun hc8 => ?_) (fun hc8 => ?_)
  · 
    replace hc8 := of_decide_eq_true hc8
    have ht10 : ts10 = ts.tail := by rw [hts10, if_pos hc8]
    have hpl := hd_pos (ts := ts) (by rw [hc8]; decide)
    have htl10 : ts10.length + 1 = ts.length := by rw [ht10]; exact hpl
    refine gseq fun N4 hN4 => ?_
    refine greg ?_
    refine gop (y_move (v := .pointer (some ⟨rg, 0, none⟩)) rfl) rfl rfl rfl ?_
    refine gop_does2 0 1 (fun v r s1 G => ∃ x b B' bc' o' a' code', v = .tuple #[.int .i64 x, .bool b] ∧ r = box rg (.cells #[.slice B' o'.length bc', .string s, .int .i64 ((a' : Nat)), .int .i64 ((nextW s (a') : Nat)), .int .i64 code'] 124) ∧ s1 = rowl pnCells w0.heap.size 48 4 (.slice B' (o').length bc') (o') ∧ G = [] ∧ POK s (rd s.size n 2 none ts10) (o) code x b o' a' code') (e_call (vs := [.pointer (some ⟨rg, 0, none⟩)]) Tryz.func93 rfl (by kernel_rfl) rfl) rfl rfl rfl (fun w fr1 hfr hM => (hF w _ _ _ o fr1 _ ts10 (by omega) hrs10 (by omega) hM).mono fun _ _ ⟨x, b, B', bc', o', a', code', h1, h2, h3⟩ => ⟨_, _, _, [], h1, ⟨x, b, B', bc', o', a', code', rfl, rfl, rfl, rfl, h2⟩, h3⟩) rfl rfl rfl ?_
    rintro _ _ _ _ ⟨x13, b13, B13, bc13, o13, a13, code13, rfl, rfl, rfl, rfl, hp13⟩
    refine gop (y_move (v := .tuple #[.int _ _, .bool _]) rfl) rfl rfl rfl ?_
    refine gop (y_extract (v := .int _ _) rfl rfl) rfl rfl rfl ?_
    refine gop (y_extract (v := .bool _) rfl rfl) rfl rfl rfl ?_
    refine gop (y_assign (v := .int _ _) rfl) rfl rfl rfl ?_
    refine gop (y_assign (v := .bool _) rfl) rfl rfl rfl ?_
    refine gops_nil ?_
    refine hN4 _ _ ?_
    refine gT [box rg _, rowl _ _ _ _ _ _, fr] rfl ?_
    refine gfrom [(0, .pointer (some ⟨rg, 0, none⟩)), (4, .int _ _), (5, .bool _)] ⟨rfl, rfl, rfl, trivial⟩ fun σ => ?_
    refine gseq fun N5 hN5 => ?_
    refine gseq fun N6 hN6 => ?_
    refine greg ?_
    refine gop (y_move (v := .bool _) rfl) rfl rfl rfl ?_
    refine gop (y_not rfl) rfl rfl rfl ?_
    refine gops_nil ?_
    refine hN6 _ _ ?_
    refine gfrom [(0, .pointer (some ⟨rg, 0, none⟩)), (4, .int _ _), (17, .bool _)] ⟨rfl, rfl, rfl, trivial⟩ fun σ => ?_
    refine gcond (b := _) rfl (fun hc17 => ?_) (fun hc17 => ?_)
    · 
      replace hc17 := not_t hc17
      have hb13 : b13 = false := by simpa using hc17
      obtain ⟨hR13, ho13⟩ := pok_no hp13 hb13
      refine gseq fun N7 hN7 => ?_
      refine greg ?_
      refine gop (y_assign (v := .int _ _) rfl) rfl rfl rfl ?_
      refine gop (y_assign (v := .bool _) rfl) rfl rfl rfl ?_
      refine gops_nil ?_
      refine hN7 _ _ ?_
      refine gfrom [(2, .int _ _), (3, .bool _)] ⟨rfl, rfl, trivial⟩ fun σ => ?_
      refine gret fun w1 hM => ?_
      refine ⟨_, res2 rfl (rt (v := .int _ _) rfl) (rt (v := .bool _) rfl), ?_⟩
      have hR : rd s.size (n + 1) 2 none ts = .bad code13 a13 := by rw [hrd, fac, if_pos hc8, ← ht10, hR13]; rfl
      exact ⟨_, _, _, _, _, _, _, rfl, pok_bad hR ho13, weak_take (T' := [_, _, fr]) rfl _ hM⟩
    · 
      replace hc17 := not_f hc17
      obtain ⟨t13, us13, hR13, hx13, ho13, hrt13, hcd13⟩ := pok_yes hp13 (by first | assumption | simpa using hc17)
      have hsz13 : t13.size + us13.length ≤ ts10.length := (rd_ok s.size n 2 none ts10 t13 us13 (fun _ h => by cases h) hR13).2
      subst hx13
      subst ho13
      obtain rfl : code = code13 := hcd13.symm
      refine gskip ?_
      refine hN5 _ _ ?_
      refine gfrom [(0, .pointer (some ⟨rg, 0, none⟩)), (4, .int _ _)] ⟨rfl, rfl, trivial⟩ fun σ => ?_
      refine gseq fun N8 hN8 => ?_
      refine greg ?_
      refine gop (y_move (v := .pointer (some ⟨rg, 0, none⟩)) rfl) rfl rfl rfl ?_
      refine gop (y_nilCheck rfl) rfl rfl rfl ?_
      refine gop (y_fieldAddr_box fa124_0 rfl) rfl rfl rfl ?_
      refine gop (y_move (v := .int _ _) rfl) rfl rfl rfl ?_
      refine gop (y_build (vs := [(0, _), (2, .int _ _)]) (cells := #[_, .int .i64 0, _, .int .i64 0]) rfl (bd48_0_2 _ _)) rfl rfl rfl ?_
      refine gop_does2 0 1 (fun v r s1 G => ∃ B' bc', v = .int .i64 ((o ++ post t13 o.length).length : Nat) ∧ r = box rg (.cells #[.slice B' (o ++ post t13 o.length ++ [(⟨5, 0, ((o.length + t13.size : Nat) : Int) - 1, 0⟩ : PN)]).length bc', .string s, .int .i64 ((a13 : Nat)), .int .i64 ((nextW s (a13) : Nat)), .int .i64 code] 124) ∧ s1 = rowl pnCells w0.heap.size 48 4 (.slice B' (o ++ post t13 o.length ++ [(⟨5, 0, ((o.length + t13.size : Nat) : Int) - 1, 0⟩ : PN)]).length bc') (o ++ post t13 o.length ++ [(⟨5, 0, ((o.length + t13.size : Nat) : Int) - 1, 0⟩ : PN)]) ∧ G = []) (e_call (vs := [.pointer _, .agg #[_, _, _, _]]) Tryz.func95 rfl (by kernel_rfl) rfl) rfl rfl rfl (fun w fr1 hfr hM => (polAdd5_any _ w rg _ _ s _ _ _ (o ++ post t13 o.length) fr1 hM (by rw [app_len]; omega) ((⟨5, 0, ((o.length + t13.size : Nat) : Int) - 1, 0⟩ : PN))).mono fun _ _ ⟨B', bc', h1, h2⟩ => ⟨_, _, _, [], h1, ⟨B', bc', rfl, rfl, rfl, rfl⟩, h2⟩) rfl rfl rfl ?_
      rintro _ _ _ _ ⟨B23, bc23, rfl, rfl, rfl, rfl⟩
      refine gop (y_assign (v := .int _ _) rfl) rfl rfl rfl ?_
      refine gop (y_assign (v := .bool _) rfl) rfl rfl rfl ?_
      refine gops_nil ?_
      refine hN8 _ _ ?_
      refine gT [box rg _, rowl _ _ _ _ _ _, fr] rfl ?_
      refine gfrom [(2, .int _ _), (3, .bool _)] ⟨rfl, rfl, trivial⟩ fun σ => ?_
      refine gret fun w1 hM => ?_
      refine ⟨_, res2 rfl (rt (v := .int _ _) rfl) (rt (v := .bool _) rfl), ?_⟩
      have hR : rd s.size (n + 1) 2 none ts = .ok (.neg t13) us13 := by rw [hrd, fac, if_pos hc8, ← ht10, hR13]; rfl
      exact ⟨_, _, B23, bc23, _, _, _, rfl, pok_ok hR (by rw [app_len, size_neg]; omega) (post_neg_app o t13) hrt13, weak_take (T' := [_, _, fr]) rfl _ hM⟩
  · 
    replace hc8 := of_decide_eq_false hc8
    obtain rfl : ts = ts10 := by rw [hts10, if_neg hc8]
    obtain rfl : a = a10 := by rw [← hrs.pos, ← hrs10.pos]
    refine gseq fun N9 hN9 => ?_
    refine greg ?_
    refine gop (y_move (v := .pointer (some ⟨rg, 0, none⟩)) rfl) rfl rfl rfl ?_
    refine gop_does1 0 (fun v r G => ∃ a' ts', v = .bool (decide (hd ts = wL)) ∧ r = box rg (.cells #[.slice B (o).length bc, .string s, .int .i64 ((a' : Nat)), .int .i64 ((nextW s (a') : Nat)), .int .i64 code] 124) ∧ RS s a' ts' ∧ ts' = (if hd ts = wL then ts.tail else ts) ∧ G = []) (e_call (vs := [.pointer (some ⟨rg, 0, none⟩), _]) Tryz.func94 rfl (by kernel_rfl) rfl) rfl (fun w fr1 hfr hM => (rdTake_any _ w rg _ _ _ s _ fr1 hs _ ts hrs _ hM).mono fun _ _ ⟨a', ts', h1, h2, h3, h4⟩ => ⟨_, _, [], h1, ⟨a', ts', rfl, rfl, h2, h3, rfl⟩, h4⟩) rfl rfl rfl ?_
    rintro _ _ _ ⟨a26, ts26, rfl, rfl, hrs26, hts26, rfl⟩
    refine gop (y_assign (v := .bool _) rfl) rfl rfl rfl ?_
    refine gops_nil ?_
    refine hN9 _ _ ?_
    refine gT [box rg _, rowl _ _ _ _ _ _, fr] rfl ?_
    refine gfrom [(0, .pointer (some ⟨rg, 0, none⟩)), (24, .bool _)] ⟨rfl, rfl, trivial⟩ fun σ => ?_
    refine gcond (b := _) rfl (fun hc24 => ?_) (fun hc24 => ?_)
    · 
      replace hc24 := of_decide_eq_true hc24
      have ht26 : ts26 = ts.tail := by rw [hts26, if_pos hc24]
      have hpl := hd_pos (ts := ts) (by rw [hc24]; decide)
      have htl26 : ts26.length + 1 = ts.length := by rw [ht26]; exact hpl
      refine gseq fun N10 hN10 => ?_
      refine greg ?_
      refine gop (y_move (v := .pointer (some ⟨rg, 0, none⟩)) rfl) rfl rfl rfl ?_
      refine gop_does2 0 1 (fun v r s1 G => ∃ x b B' bc' o' a' code', v = .tuple #[.int .i64 x, .bool b] ∧ r = box rg (.cells #[.slice B' o'.length bc', .string s, .int .i64 ((a' : Nat)), .int .i64 ((nextW s (a') : Nat)), .int .i64 code'] 124) ∧ s1 = rowl pnCells w0.heap.size 48 4 (.slice B' (o').length bc') (o') ∧ G = [] ∧ POK s (rd s.size n 0 none ts26) (o) code x b o' a' code') (e_call (vs := [.pointer (some ⟨rg, 0, none⟩), _]) Tryz.func55 rfl (by kernel_rfl) rfl) rfl rfl rfl (fun w fr1 hfr hM => (hLi 0 _ w _ _ _ o fr1 _ ts26 (by omega) rfl (by omega) hrs26 (by omega) hM).mono fun _ _ ⟨x, b, B', bc', o', a', code', h1, h2, h3⟩ => ⟨_, _, _, [], h1, ⟨x, b, B', bc', o', a', code', rfl, rfl, rfl, rfl, h2⟩, h3⟩) rfl rfl rfl ?_
      rintro _ _ _ _ ⟨x29, b29, B29, bc29, o29, a29, code29, rfl, rfl, rfl, rfl, hp29⟩
      refine gop (y_move (v := .tuple #[.int _ _, .bool _]) rfl) rfl rfl rfl ?_
      refine gop (y_extract (v := .int _ _) rfl rfl) rfl rfl rfl ?_
      refine gop (y_extract (v := .bool _) rfl rfl) rfl rfl rfl ?_
      refine gop (y_assign (v := .int _ _) rfl) rfl rfl rfl ?_
      refine gop (y_assign (v := .bool _) rfl) rfl rfl rfl ?_
      refine gops_nil ?_
      refine hN10 _ _ ?_
      refine gT [box rg _, rowl _ _ _ _ _ _, fr] rfl ?_
      refine gfrom [(0, .pointer (some ⟨rg, 0, none⟩)), (6, .int _ _), (7, .bool _)] ⟨rfl, rfl, rfl, trivial⟩ fun σ => ?_
      refine gseq fun N11 hN11 => ?_
      refine gseq fun N12 hN12 => ?_
      refine greg ?_
      refine gop (y_move (v := .bool _) rfl) rfl rfl rfl ?_
      refine gop (y_move (v := .bool _) rfl) rfl rfl rfl ?_
      refine gop_if (want := true) rfl rfl rfl rfl rfl rfl (fun hg33 => ?_) (fun hg33 => ?_)
      · 
        have hg33d := hg33
        obtain ⟨t29, us29, hR29, hx29, ho29, hrt29, hcd29⟩ := pok_yes hp29 (by first | assumption | simpa using hg33d)
        have hsz29 : t29.size + us29.length ≤ ts26.length := (rd_ok s.size n 0 none ts26 t29 us29 (fun _ h => by cases h) hR29).2
        subst hx29
        subst ho29
        obtain rfl : code = code29 := hcd29.symm
        refine gop (y_bare (y_move (v := .pointer (some ⟨rg, 0, none⟩)) rfl)) rfl rfl rfl ?_
        refine gop_on rfl rfl rfl rfl hg33 ?_
        refine gop_does1 0 (fun v r G => ∃ a' ts', v = .bool (decide (hd us29 = wR)) ∧ r = box rg (.cells #[.slice B29 (o ++ post t29 o.length).length bc29, .string s, .int .i64 ((a' : Nat)), .int .i64 ((nextW s (a') : Nat)), .int .i64 code] 124) ∧ RS s a' ts' ∧ ts' = (if hd us29 = wR then us29.tail else us29) ∧ G = []) (e_call (vs := [.pointer (some ⟨rg, 0, none⟩), _]) Tryz.func94 rfl (by kernel_rfl) rfl) rfl (fun w fr1 hfr hM => (rdTake_any _ w rg _ _ _ s _ fr1 hs _ us29 hrt29 _ hM).mono fun _ _ ⟨a', ts', h1, h2, h3, h4⟩ => ⟨_, _, [], h1, ⟨a', ts', rfl, rfl, h2, h3, rfl⟩, h4⟩) rfl rfl rfl ?_
        rintro _ _ _ ⟨a35, ts35, rfl, rfl, hrs35, hts35, rfl⟩
        refine gop_on rfl rfl rfl rfl hg33 ?_
        refine gop (y_bare (y_not rfl)) rfl rfl rfl ?_
        refine gop (y_pick_t (v := .bool _) rfl hg33 rfl) rfl rfl rfl ?_
        refine gops_nil ?_
        refine hN12 _ _ ?_
        refine gT [box rg _, rowl _ _ _ _ _ _, fr] rfl ?_
        refine gfrom [(0, .pointer (some ⟨rg, 0, none⟩)), (6, .int _ _), (7, .bool _), (37, .bool _)] ⟨rfl, rfl, rfl, rfl, trivial⟩ fun σ => ?_
        refine gcond (b := _) rfl (fun hc37 => ?_) (fun hc37 => ?_)
        · 
          replace hc37 := not_t hc37
          have hw : ¬ hd us29 = wR := by simpa using hc37
          obtain rfl : us29 = ts35 := by rw [hts35, if_neg hw]
          obtain rfl : a29 = a35 := by rw [← hrt29.pos, ← hrs35.pos]
          refine gseq fun N13 hN13 => ?_
          refine greg ?_
          refine gop (y_move (v := .pointer (some ⟨rg, 0, none⟩)) rfl) rfl rfl rfl ?_
          refine gop_does1 0 (fun v r G => v = .tuple #[.int .i64 0, .bool false] ∧ r = box rg (.cells #[.slice B29 (o ++ post t29 o.length).length bc29, .string s, .int .i64 ((a29 : Nat)), .int .i64 ((nextW s (a29) : Nat)), .int .i64 1] 124) ∧ G = []) (e_call (vs := [.pointer (some ⟨rg, 0, none⟩), _]) Tryz.func56 rfl (by kernel_rfl) rfl) rfl (fun w fr1 hfr hM => (rdFail_any _ w rg _ _ _ s _ _ _ fr1 1 hM).mono fun _ _ ⟨h1, h2⟩ => ⟨_, _, [], h1, ⟨rfl, rfl, rfl⟩, h2⟩) rfl rfl rfl ?_
          rintro _ _ _ ⟨rfl, rfl, rfl⟩
          refine gop (y_extract (v := .int _ _) rfl rfl) rfl rfl rfl ?_
          refine gop (y_extract (v := .bool _) rfl rfl) rfl rfl rfl ?_
          refine gop (y_assign (v := .int _ _) rfl) rfl rfl rfl ?_
          refine gop (y_assign (v := .bool _) rfl) rfl rfl rfl ?_
          refine gops_nil ?_
          refine hN13 _ _ ?_
          refine gT [box rg _, rowl _ _ _ _ _ _, fr] rfl ?_
          refine gfrom [(2, .int _ _), (3, .bool _)] ⟨rfl, rfl, trivial⟩ fun σ => ?_
          refine gret fun w1 hM => ?_
          refine ⟨_, res2 rfl (rt (v := .int _ _) rfl) (rt (v := .bool _) rfl), ?_⟩
          have hR : rd s.size (n + 1) 2 none ts = .bad 1 a29 := by
            rw [hrd, fac, if_neg hc8, if_pos hc24, ← ht26, hR29]
            show (if hd us29 = wR then _ else Res.bad 1 (pos s.size us29)) = _
            rw [if_neg hw, hrt29.pos]
          exact ⟨_, _, _, _, _, _, _, rfl, pok_bad hR (by rw [app_len]; omega), weak_take (T' := [_, _, fr]) rfl _ hM⟩
        · 
          replace hc37 := not_f hc37
          refine gskip ?_
          refine hN11 _ _ ?_
          refine gfrom [(6, .int _ _), (7, .bool _)] ⟨rfl, rfl, trivial⟩ fun σ => ?_
          refine gseq fun N14 hN14 => ?_
          refine greg ?_
          refine gop (y_move (v := .int _ _) rfl) rfl rfl rfl ?_
          refine gop (y_move (v := .bool _) rfl) rfl rfl rfl ?_
          refine gop (y_assign (v := .int _ _) rfl) rfl rfl rfl ?_
          refine gop (y_assign (v := .bool _) rfl) rfl rfl rfl ?_
          refine gops_nil ?_
          refine hN14 _ _ ?_
          refine gfrom [(2, .int _ _), (3, .bool _)] ⟨rfl, rfl, trivial⟩ fun σ => ?_
          refine gret fun w1 hM => ?_
          refine ⟨_, res2 rfl (rt (v := .int _ _) rfl) (rt (v := .bool _) rfl), ?_⟩
          first
          | (have hw : hd us29 = wR := by simpa using hc37
             have hR : rd s.size (n + 1) 2 none ts = .ok t29 ts35 := by
               rw [hrd, fac, if_neg hc8, if_pos hc24, ← ht26, hR29]
               show (if hd us29 = wR then Res.ok t29 us29.tail else _) = _
               rw [if_pos hw, hts35, if_pos hw]
             exact ⟨_, _, B29, bc29, _, _, _, rfl, pok_ok2 (by assumption) hR rfl rfl hrs35, weak_take (T' := [_, _, fr]) rfl _ hM⟩)
          | (obtain ⟨hR29, ho29⟩ := pok_no hp29 (by assumption)
             have hR : rd s.size (n + 1) 2 none ts = .bad code29 a29 := by rw [hrd, fac, if_neg hc8, if_pos hc24, ← ht26, hR29]; rfl
             exact ⟨_, _, _, _, _, _, _, rfl, pok_bad2 (by assumption) hR ho29, weak_take (T' := [_, _, fr]) rfl _ hM⟩)
      · 
        have hg33d := hg33
        refine gop_off rfl rfl rfl rfl hg33 rfl rfl ?_
        refine gop_off rfl rfl rfl rfl hg33 rfl rfl ?_
        refine gop (y_pick_f (v := .bool _) rfl hg33 rfl) rfl rfl rfl ?_
        refine gops_nil ?_
        refine hN12 _ _ ?_
        refine gfrom [(0, .pointer (some ⟨rg, 0, none⟩)), (6, .int _ _), (7, .bool _), (37, .bool _)] ⟨rfl, rfl, rfl, rfl, trivial⟩ fun σ => ?_
        refine gcond (b := _) rfl (fun hc37 => ?_) (fun hc37 => ?_)
        · 
          cases hc37
        · 
          refine gskip ?_
          refine hN11 _ _ ?_
          refine gfrom [(6, .int _ _), (7, .bool _)] ⟨rfl, rfl, trivial⟩ fun σ => ?_
          refine gseq fun N15 hN15 => ?_
          refine greg ?_
          refine gop (y_move (v := .int _ _) rfl) rfl rfl rfl ?_
          refine gop (y_move (v := .bool _) rfl) rfl rfl rfl ?_
          refine gop (y_assign (v := .int _ _) rfl) rfl rfl rfl ?_
          refine gop (y_assign (v := .bool _) rfl) rfl rfl rfl ?_
          refine gops_nil ?_
          refine hN15 _ _ ?_
          refine gfrom [(2, .int _ _), (3, .bool _)] ⟨rfl, rfl, trivial⟩ fun σ => ?_
          refine gret fun w1 hM => ?_
          refine ⟨_, res2 rfl (rt (v := .int _ _) rfl) (rt (v := .bool _) rfl), ?_⟩
          first
          | (have hw : hd us29 = wR := by simpa using hc37
             have hR : rd s.size (n + 1) 2 none ts = .ok t29 ts35 := by
               rw [hrd, fac, if_neg hc8, if_pos hc24, ← ht26, hR29]
               show (if hd us29 = wR then Res.ok t29 us29.tail else _) = _
               rw [if_pos hw, hts35, if_pos hw]
             exact ⟨_, _, B29, bc29, _, _, _, rfl, pok_ok2 (by assumption) hR rfl rfl hrs35, weak_take (T' := [_, _, fr]) rfl _ hM⟩)
          | (obtain ⟨hR29, ho29⟩ := pok_no hp29 (by assumption)
             have hR : rd s.size (n + 1) 2 none ts = .bad code29 a29 := by rw [hrd, fac, if_neg hc8, if_pos hc24, ← ht26, hR29]; rfl
             exact ⟨_, _, _, _, _, _, _, rfl, pok_bad2 (by assumption) hR ho29, weak_take (T' := [_, _, fr]) rfl _ hM⟩)
    · 
      replace hc24 := of_decide_eq_false hc24
      obtain rfl : ts = ts26 := by rw [hts26, if_neg hc24]
      obtain rfl : a = a26 := by rw [← hrs.pos, ← hrs26.pos]
      refine gseq fun N16 hN16 => ?_
      refine greg ?_
      refine gop (y_move (v := .pointer (some ⟨rg, 0, none⟩)) rfl) rfl rfl rfl ?_
      refine gop_does1 0 (fun v r G => ∃ a' ts', v = .bool (decide (hd ts = wScore)) ∧ r = box rg (.cells #[.slice B (o).length bc, .string s, .int .i64 ((a' : Nat)), .int .i64 ((nextW s (a') : Nat)), .int .i64 code] 124) ∧ RS s a' ts' ∧ ts' = (if hd ts = wScore then ts.tail else ts) ∧ G = []) (e_call (vs := [.pointer (some ⟨rg, 0, none⟩), _]) Tryz.func94 rfl (by kernel_rfl) rfl) rfl (fun w fr1 hfr hM => (rdTake_any _ w rg _ _ _ s _ fr1 hs _ ts hrs _ hM).mono fun _ _ ⟨a', ts', h1, h2, h3, h4⟩ => ⟨_, _, [], h1, ⟨a', ts', rfl, rfl, h2, h3, rfl⟩, h4⟩) rfl rfl rfl ?_
      rintro _ _ _ ⟨a46, ts46, rfl, rfl, hrs46, hts46, rfl⟩
      refine gop (y_assign (v := .bool _) rfl) rfl rfl rfl ?_
      refine gops_nil ?_
      refine hN16 _ _ ?_
      refine gT [box rg _, rowl _ _ _ _ _ _, fr] rfl ?_
      refine gfrom [(0, .pointer (some ⟨rg, 0, none⟩)), (44, .bool _)] ⟨rfl, rfl, trivial⟩ fun σ => ?_
      refine gcond (b := _) rfl (fun hc44 => ?_) (fun hc44 => ?_)
      · 
        replace hc44 := of_decide_eq_true hc44
        have ht46 : ts46 = ts.tail := by rw [hts46, if_pos hc44]
        have hpl := hd_pos (ts := ts) (by rw [hc44]; decide)
        have htl46 : ts46.length + 1 = ts.length := by rw [ht46]; exact hpl
        refine gseq fun N17 hN17 => ?_
        refine greg ?_
        refine gop (y_move (v := .pointer (some ⟨rg, 0, none⟩)) rfl) rfl rfl rfl ?_
        refine gop_does2 0 1 (fun v r s1 G => ∃ x b B' bc' o' a' code', v = .tuple #[.int .i64 x, .bool b] ∧ r = box rg (.cells #[.slice B' o'.length bc', .string s, .int .i64 ((a' : Nat)), .int .i64 ((nextW s (a') : Nat)), .int .i64 code'] 124) ∧ s1 = rowl pnCells w0.heap.size 48 4 (.slice B' (o').length bc') (o') ∧ G = [] ∧ POK s (numR s.size 1 ts46) (o) code x b o' a' code') (e_call (vs := [.pointer (some ⟨rg, 0, none⟩), _]) Tryz.func117 rfl (by kernel_rfl) rfl) rfl rfl rfl (fun w fr1 hfr hM => (rdNumber_any _ w rg _ _ s _ o fr1 hs _ ts46 hrs46 _ (by omega) hL hM).mono fun _ _ ⟨x, b, B', bc', o', a', code', h1, h2, h3⟩ => ⟨_, _, _, [], h1, ⟨x, b, B', bc', o', a', code', rfl, rfl, rfl, rfl, h2⟩, h3⟩) rfl rfl rfl ?_
        rintro _ _ _ _ ⟨x48, b48, B48, bc48, o48, a48, code48, rfl, rfl, rfl, rfl, hp48⟩
        refine gop (y_extract (v := .int _ _) rfl rfl) rfl rfl rfl ?_
        refine gop (y_extract (v := .bool _) rfl rfl) rfl rfl rfl ?_
        refine gop (y_assign (v := .int _ _) rfl) rfl rfl rfl ?_
        refine gop (y_assign (v := .bool _) rfl) rfl rfl rfl ?_
        refine gops_nil ?_
        refine hN17 _ _ ?_
        refine gT [box rg _, rowl _ _ _ _ _ _, fr] rfl ?_
        refine gfrom [(2, .int _ _), (3, .bool _)] ⟨rfl, rfl, trivial⟩ fun σ => ?_
        refine gret fun w1 hM => ?_
        refine ⟨_, res2 rfl (rt (v := .int _ _) rfl) (rt (v := .bool _) rfl), ?_⟩
        have hR : rd s.size (n + 1) 2 none ts = numR s.size 1 ts46 := by rw [hrd, fac, if_neg hc8, if_neg hc24, if_pos hc44, ht46]
        exact ⟨x48, b48, B48, bc48, o48, a48, code48, rfl, by rw [hR]; exact hp48, weak_take (T' := [_, _, fr]) rfl _ hM⟩
      · 
        replace hc44 := of_decide_eq_false hc44
        obtain rfl : ts = ts46 := by rw [hts46, if_neg hc44]
        obtain rfl : a = a46 := by rw [← hrs.pos, ← hrs46.pos]
        refine gseq fun N18 hN18 => ?_
        refine greg ?_
        refine gop (y_move (v := .pointer (some ⟨rg, 0, none⟩)) rfl) rfl rfl rfl ?_
        refine gop_does1 0 (fun v r G => ∃ a' ts', v = .bool (decide (hd ts = wUser)) ∧ r = box rg (.cells #[.slice B (o).length bc, .string s, .int .i64 ((a' : Nat)), .int .i64 ((nextW s (a') : Nat)), .int .i64 code] 124) ∧ RS s a' ts' ∧ ts' = (if hd ts = wUser then ts.tail else ts) ∧ G = []) (e_call (vs := [.pointer (some ⟨rg, 0, none⟩), _]) Tryz.func94 rfl (by kernel_rfl) rfl) rfl (fun w fr1 hfr hM => (rdTake_any _ w rg _ _ _ s _ fr1 hs _ ts hrs _ hM).mono fun _ _ ⟨a', ts', h1, h2, h3, h4⟩ => ⟨_, _, [], h1, ⟨a', ts', rfl, rfl, h2, h3, rfl⟩, h4⟩) rfl rfl rfl ?_
        rintro _ _ _ ⟨a53, ts53, rfl, rfl, hrs53, hts53, rfl⟩
        refine gop (y_assign (v := .bool _) rfl) rfl rfl rfl ?_
        refine gops_nil ?_
        refine hN18 _ _ ?_
        refine gT [box rg _, rowl _ _ _ _ _ _, fr] rfl ?_
        refine gfrom [(0, .pointer (some ⟨rg, 0, none⟩)), (51, .bool _)] ⟨rfl, rfl, trivial⟩ fun σ => ?_
        refine gcond (b := _) rfl (fun hc51 => ?_) (fun hc51 => ?_)
        · 
          replace hc51 := of_decide_eq_true hc51
          have ht53 : ts53 = ts.tail := by rw [hts53, if_pos hc51]
          have hpl := hd_pos (ts := ts) (by rw [hc51]; decide)
          have htl53 : ts53.length + 1 = ts.length := by rw [ht53]; exact hpl
          refine gseq fun N19 hN19 => ?_
          refine greg ?_
          refine gop (y_move (v := .pointer (some ⟨rg, 0, none⟩)) rfl) rfl rfl rfl ?_
          refine gop_does2 0 1 (fun v r s1 G => ∃ x b B' bc' o' a' code', v = .tuple #[.int .i64 x, .bool b] ∧ r = box rg (.cells #[.slice B' o'.length bc', .string s, .int .i64 ((a' : Nat)), .int .i64 ((nextW s (a') : Nat)), .int .i64 code'] 124) ∧ s1 = rowl pnCells w0.heap.size 48 4 (.slice B' (o').length bc') (o') ∧ G = [] ∧ POK s (numR s.size 4 ts53) (o) code x b o' a' code') (e_call (vs := [.pointer (some ⟨rg, 0, none⟩), _]) Tryz.func117 rfl (by kernel_rfl) rfl) rfl rfl rfl (fun w fr1 hfr hM => (rdNumber_any _ w rg _ _ s _ o fr1 hs _ ts53 hrs53 _ (by omega) hL hM).mono fun _ _ ⟨x, b, B', bc', o', a', code', h1, h2, h3⟩ => ⟨_, _, _, [], h1, ⟨x, b, B', bc', o', a', code', rfl, rfl, rfl, rfl, h2⟩, h3⟩) rfl rfl rfl ?_
          rintro _ _ _ _ ⟨x55, b55, B55, bc55, o55, a55, code55, rfl, rfl, rfl, rfl, hp55⟩
          refine gop (y_extract (v := .int _ _) rfl rfl) rfl rfl rfl ?_
          refine gop (y_extract (v := .bool _) rfl rfl) rfl rfl rfl ?_
          refine gop (y_assign (v := .int _ _) rfl) rfl rfl rfl ?_
          refine gop (y_assign (v := .bool _) rfl) rfl rfl rfl ?_
          refine gops_nil ?_
          refine hN19 _ _ ?_
          refine gT [box rg _, rowl _ _ _ _ _ _, fr] rfl ?_
          refine gfrom [(2, .int _ _), (3, .bool _)] ⟨rfl, rfl, trivial⟩ fun σ => ?_
          refine gret fun w1 hM => ?_
          refine ⟨_, res2 rfl (rt (v := .int _ _) rfl) (rt (v := .bool _) rfl), ?_⟩
          have hR : rd s.size (n + 1) 2 none ts = numR s.size 4 ts53 := by rw [hrd, fac, if_neg hc8, if_neg hc24, if_neg hc44, if_pos hc51, ht53]
          exact ⟨x55, b55, B55, bc55, o55, a55, code55, rfl, by rw [hR]; exact hp55, weak_take (T' := [_, _, fr]) rfl _ hM⟩
        · 
          replace hc51 := of_decide_eq_false hc51
          obtain rfl : ts = ts53 := by rw [hts53, if_neg hc51]
          obtain rfl : a = a53 := by rw [← hrs.pos, ← hrs53.pos]
          refine gseq fun N20 hN20 => ?_
          refine greg ?_
          refine gop (y_move (v := .pointer (some ⟨rg, 0, none⟩)) rfl) rfl rfl rfl ?_
          refine gop_does1 0 (fun v r G => ∃ a' ts', v = .bool (decide (hd ts = wOwners)) ∧ r = box rg (.cells #[.slice B (o).length bc, .string s, .int .i64 ((a' : Nat)), .int .i64 ((nextW s (a') : Nat)), .int .i64 code] 124) ∧ RS s a' ts' ∧ ts' = (if hd ts = wOwners then ts.tail else ts) ∧ G = []) (e_call (vs := [.pointer (some ⟨rg, 0, none⟩), _]) Tryz.func94 rfl (by kernel_rfl) rfl) rfl (fun w fr1 hfr hM => (rdTake_any _ w rg _ _ _ s _ fr1 hs _ ts hrs _ hM).mono fun _ _ ⟨a', ts', h1, h2, h3, h4⟩ => ⟨_, _, [], h1, ⟨a', ts', rfl, rfl, h2, h3, rfl⟩, h4⟩) rfl rfl rfl ?_
          rintro _ _ _ ⟨a60, ts60, rfl, rfl, hrs60, hts60, rfl⟩
          refine gop (y_assign (v := .bool _) rfl) rfl rfl rfl ?_
          refine gops_nil ?_
          refine hN20 _ _ ?_
          refine gT [box rg _, rowl _ _ _ _ _ _, fr] rfl ?_
          refine gfrom [(0, .pointer (some ⟨rg, 0, none⟩)), (58, .bool _)] ⟨rfl, rfl, trivial⟩ fun σ => ?_
          refine gcond (b := _) rfl (fun hc58 => ?_) (fun hc58 => ?_)
          · 
            replace hc58 := of_decide_eq_true hc58
            have ht60 : ts60 = ts.tail := by rw [hts60, if_pos hc58]
            have hpl := hd_pos (ts := ts) (by rw [hc58]; decide)
            have htl60 : ts60.length + 1 = ts.length := by rw [ht60]; exact hpl
            refine gseq fun N21 hN21 => ?_
            refine greg ?_
            refine gop (y_move (v := .pointer (some ⟨rg, 0, none⟩)) rfl) rfl rfl rfl ?_
            refine gop (y_nilCheck rfl) rfl rfl rfl ?_
            refine gop (y_fieldAddr_box fa124_0 rfl) rfl rfl rfl ?_
            refine gop (y_build (vs := [(0, _)]) (cells := #[_, .int .i64 0, .int .i64 0, .int .i64 0]) rfl (bd48_0 _)) rfl rfl rfl ?_
            refine gop_does2 0 1 (fun v r s1 G => ∃ B' bc', v = .int .i64 ((o).length : Nat) ∧ r = box rg (.cells #[.slice B' (o ++ [(⟨2, 0, 0, 0⟩ : PN)]).length bc', .string s, .int .i64 ((a60 : Nat)), .int .i64 ((nextW s (a60) : Nat)), .int .i64 code] 124) ∧ s1 = rowl pnCells w0.heap.size 48 4 (.slice B' (o ++ [(⟨2, 0, 0, 0⟩ : PN)]).length bc') (o ++ [(⟨2, 0, 0, 0⟩ : PN)]) ∧ G = []) (e_call (vs := [.pointer _, .agg #[_, _, _, _]]) Tryz.func95 rfl (by kernel_rfl) rfl) rfl rfl rfl (fun w fr1 hfr hM => (polAdd5_any _ w rg _ _ s _ _ _ (o) fr1 hM (by omega) ((⟨2, 0, 0, 0⟩ : PN))).mono fun _ _ ⟨B', bc', h1, h2⟩ => ⟨_, _, _, [], h1, ⟨B', bc', rfl, rfl, rfl, rfl⟩, h2⟩) rfl rfl rfl ?_
            rintro _ _ _ _ ⟨B65, bc65, rfl, rfl, rfl, rfl⟩
            refine gop (y_assign (v := .int _ _) rfl) rfl rfl rfl ?_
            refine gop (y_assign (v := .bool _) rfl) rfl rfl rfl ?_
            refine gops_nil ?_
            refine hN21 _ _ ?_
            refine gT [box rg _, rowl _ _ _ _ _ _, fr] rfl ?_
            refine gfrom [(2, .int _ _), (3, .bool _)] ⟨rfl, rfl, trivial⟩ fun σ => ?_
            refine gret fun w1 hM => ?_
            refine ⟨_, res2 rfl (rt (v := .int _ _) rfl) (rt (v := .bool _) rfl), ?_⟩
            have hR : rd s.size (n + 1) 2 none ts = .ok (.leaf 2 0) ts60 := by rw [hrd, fac, if_neg hc8, if_neg hc24, if_neg hc44, if_neg hc51, if_pos hc58, ht60]
            exact ⟨_, _, B65, bc65, _, _, _, rfl, pok_ok hR (by simp only [Tr.size]; omega) rfl hrs60, weak_take (T' := [_, _, fr]) rfl _ hM⟩
          · 
            replace hc58 := of_decide_eq_false hc58
            obtain rfl : ts = ts60 := by rw [hts60, if_neg hc58]
            obtain rfl : a = a60 := by rw [← hrs.pos, ← hrs60.pos]
            refine gseq fun N22 hN22 => ?_
            refine greg ?_
            refine gop (y_move (v := .pointer (some ⟨rg, 0, none⟩)) rfl) rfl rfl rfl ?_
            refine gop_does1 0 (fun v r G => ∃ a' ts', v = .bool (decide (hd ts = wTests)) ∧ r = box rg (.cells #[.slice B (o).length bc, .string s, .int .i64 ((a' : Nat)), .int .i64 ((nextW s (a') : Nat)), .int .i64 code] 124) ∧ RS s a' ts' ∧ ts' = (if hd ts = wTests then ts.tail else ts) ∧ G = []) (e_call (vs := [.pointer (some ⟨rg, 0, none⟩), _]) Tryz.func94 rfl (by kernel_rfl) rfl) rfl (fun w fr1 hfr hM => (rdTake_any _ w rg _ _ _ s _ fr1 hs _ ts hrs _ hM).mono fun _ _ ⟨a', ts', h1, h2, h3, h4⟩ => ⟨_, _, [], h1, ⟨a', ts', rfl, rfl, h2, h3, rfl⟩, h4⟩) rfl rfl rfl ?_
            rintro _ _ _ ⟨a68, ts68, rfl, rfl, hrs68, hts68, rfl⟩
            refine gop (y_assign (v := .bool _) rfl) rfl rfl rfl ?_
            refine gops_nil ?_
            refine hN22 _ _ ?_
            refine gT [box rg _, rowl _ _ _ _ _ _, fr] rfl ?_
            refine gfrom [(0, .pointer (some ⟨rg, 0, none⟩)), (66, .bool _)] ⟨rfl, rfl, trivial⟩ fun σ => ?_
            refine gcond (b := _) rfl (fun hc66 => ?_) (fun hc66 => ?_)
            · 
              replace hc66 := of_decide_eq_true hc66
              have ht68 : ts68 = ts.tail := by rw [hts68, if_pos hc66]
              have hpl := hd_pos (ts := ts) (by rw [hc66]; decide)
              have htl68 : ts68.length + 1 = ts.length := by rw [ht68]; exact hpl
              refine gseq fun N23 hN23 => ?_
              refine greg ?_
              refine gop (y_move (v := .pointer (some ⟨rg, 0, none⟩)) rfl) rfl rfl rfl ?_
              refine gop (y_nilCheck rfl) rfl rfl rfl ?_
              refine gop (y_fieldAddr_box fa124_0 rfl) rfl rfl rfl ?_
              refine gop (y_build (vs := [(0, _)]) (cells := #[_, .int .i64 0, .int .i64 0, .int .i64 0]) rfl (bd48_0 _)) rfl rfl rfl ?_
              refine gop_does2 0 1 (fun v r s1 G => ∃ B' bc', v = .int .i64 ((o).length : Nat) ∧ r = box rg (.cells #[.slice B' (o ++ [(⟨3, 0, 0, 0⟩ : PN)]).length bc', .string s, .int .i64 ((a68 : Nat)), .int .i64 ((nextW s (a68) : Nat)), .int .i64 code] 124) ∧ s1 = rowl pnCells w0.heap.size 48 4 (.slice B' (o ++ [(⟨3, 0, 0, 0⟩ : PN)]).length bc') (o ++ [(⟨3, 0, 0, 0⟩ : PN)]) ∧ G = []) (e_call (vs := [.pointer _, .agg #[_, _, _, _]]) Tryz.func95 rfl (by kernel_rfl) rfl) rfl rfl rfl (fun w fr1 hfr hM => (polAdd5_any _ w rg _ _ s _ _ _ (o) fr1 hM (by omega) ((⟨3, 0, 0, 0⟩ : PN))).mono fun _ _ ⟨B', bc', h1, h2⟩ => ⟨_, _, _, [], h1, ⟨B', bc', rfl, rfl, rfl, rfl⟩, h2⟩) rfl rfl rfl ?_
              rintro _ _ _ _ ⟨B73, bc73, rfl, rfl, rfl, rfl⟩
              refine gop (y_assign (v := .int _ _) rfl) rfl rfl rfl ?_
              refine gop (y_assign (v := .bool _) rfl) rfl rfl rfl ?_
              refine gops_nil ?_
              refine hN23 _ _ ?_
              refine gT [box rg _, rowl _ _ _ _ _ _, fr] rfl ?_
              refine gfrom [(2, .int _ _), (3, .bool _)] ⟨rfl, rfl, trivial⟩ fun σ => ?_
              refine gret fun w1 hM => ?_
              refine ⟨_, res2 rfl (rt (v := .int _ _) rfl) (rt (v := .bool _) rfl), ?_⟩
              have hR : rd s.size (n + 1) 2 none ts = .ok (.leaf 3 0) ts68 := by rw [hrd, fac, if_neg hc8, if_neg hc24, if_neg hc44, if_neg hc51, if_neg hc58, if_pos hc66, ht68]
              exact ⟨_, _, B73, bc73, _, _, _, rfl, pok_ok hR (by simp only [Tr.size]; omega) rfl hrs68, weak_take (T' := [_, _, fr]) rfl _ hM⟩
            · 
              replace hc66 := of_decide_eq_false hc66
              obtain rfl : ts = ts68 := by rw [hts68, if_neg hc66]
              obtain rfl : a = a68 := by rw [← hrs.pos, ← hrs68.pos]
              refine gskip ?_
              refine hN2 _ _ ?_
              refine gfrom [(0, .pointer (some ⟨rg, 0, none⟩))] ⟨rfl, trivial⟩ fun σ => ?_
              refine gseq fun N24 hN24 => ?_
              refine greg ?_
              refine gop (y_move (v := .pointer (some ⟨rg, 0, none⟩)) rfl) rfl rfl rfl ?_
              refine gop_does1 0 (fun v r G => v = .tuple #[.int .i64 0, .bool false] ∧ r = box rg (.cells #[.slice B o.length bc, .string s, .int .i64 ((a : Nat)), .int .i64 ((nextW s (a) : Nat)), .int .i64 1] 124) ∧ G = []) (e_call (vs := [.pointer (some ⟨rg, 0, none⟩), _]) Tryz.func56 rfl (by kernel_rfl) rfl) rfl (fun w fr1 hfr hM => (rdFail_any _ w rg _ _ _ s _ _ _ fr1 1 hM).mono fun _ _ ⟨h1, h2⟩ => ⟨_, _, [], h1, ⟨rfl, rfl, rfl⟩, h2⟩) rfl rfl rfl ?_
              rintro _ _ _ ⟨rfl, rfl, rfl⟩
              refine gop (y_extract (v := .int _ _) rfl rfl) rfl rfl rfl ?_
              refine gop (y_extract (v := .bool _) rfl rfl) rfl rfl rfl ?_
              refine gop (y_assign (v := .int _ _) rfl) rfl rfl rfl ?_
              refine gop (y_assign (v := .bool _) rfl) rfl rfl rfl ?_
              refine gops_nil ?_
              refine hN24 _ _ ?_
              refine gT [box rg _, rowl _ _ _ _ _ _, fr] rfl ?_
              refine gfrom [(2, .int _ _), (3, .bool _)] ⟨rfl, rfl, trivial⟩ fun σ => ?_
              refine gret fun w1 hM => ?_
              refine ⟨_, res2 rfl (rt (v := .int _ _) rfl) (rt (v := .bool _) rfl), ?_⟩
              have hR : rd s.size (n + 1) 2 none ts = .bad 1 a := by rw [hrd, fac, if_neg hc8, if_neg hc24, if_neg hc44, if_neg hc51, if_neg hc58, if_neg hc66, hrs.pos]
              exact ⟨_, _, B, bc, o, _, _, rfl, pok_bad hR (by omega), weak_take (T' := [_, _, fr]) rfl _ hM⟩
end Go.Proofs.YtbkameioedmlkaaGreatDoor
namespace Go.Proofs.YtbkameioedmlkaaGreatDoor
open Go.RowKit Go.Cf
set_option maxRecDepth 10000
theorem bd48_0_2_3 (x1 : Int) (x2 : Int) (x3 : Int) : Tryz.prog.built 48 [(0, .int .i64 x1), (2, .int .i64 x2), (3, .int .i64 x3)] = some #[.int .i64 x1, .int .i64 0, .int .i64 x2, .int .i64 x3] := by kernel_rfl
set_option maxHeartbeats 16000000 in
theorem rdList_step (w0 : World) (s : ByteArray) (hs : s.size ≤ 200) (rg n : Nat) (hFac : FacH w0 s rg (n + 1)) (hLi : ∀ m, m ≤ n → ListH w0 s rg m) : ListH w0 s rg (n + 1) := by
  intro lv vi w B bc code o fr a ts hlv hvi hfu hrs hol hM0
  refine gcallsT Tryz.func55 rfl Tryz.ntmps55 (Nat.le_of_ble_eq_true rfl) hM0 ?_
  refine gfrom [(0, .pointer (some ⟨rg, 0, none⟩)), (1, .int _ _)] ⟨rfl, rfl, trivial⟩ fun σ => ?_
  refine gseq fun N1 hN1 => ?_
  refine greg ?_
  refine gop (y_assign (v := .int _ _) rfl) rfl rfl rfl ?_
  refine gop (y_assign (v := .bool _) rfl) rfl rfl rfl ?_
  refine gops_nil ?_
  refine hN1 _ _ ?_
  refine gfrom [(0, .pointer (some ⟨rg, 0, none⟩)), (1, .int _ _)] ⟨rfl, rfl, trivial⟩ fun σ => ?_
  refine gseq fun N2 hN2 => ?_
  refine gseq fun N3 hN3 => ?_
  refine greg ?_
  refine gop (y_move (v := .int _ _) rfl) rfl rfl rfl ?_
  refine gop (y_eql rfl rfl) rfl rfl rfl ?_
  refine gops_nil ?_
  refine hN3 _ _ ?_
  refine gfrom [(0, .pointer (some ⟨rg, 0, none⟩)), (1, .int _ _), (12, .bool _)] ⟨rfl, rfl, rfl, trivial⟩ fun σ => ?_
  refine gcond (b := _) rfl (fun hc12 => ?_) (fun hc12 => ?_)
  · 
    replace hc12 := of_decide_eq_true hc12
    obtain rfl : lv = 2 := by omega
    refine gseq fun N4 hN4 => ?_
    refine greg ?_
    refine gop (y_move (v := .pointer (some ⟨rg, 0, none⟩)) rfl) rfl rfl rfl ?_
    refine gop_does2 0 1 (fun v r s1 G => ∃ x b B' bc' o' a' code', v = .tuple #[.int .i64 x, .bool b] ∧ r = box rg (.cells #[.slice B' o'.length bc', .string s, .int .i64 ((a' : Nat)), .int .i64 ((nextW s (a') : Nat)), .int .i64 code'] 124) ∧ s1 = rowl pnCells w0.heap.size 48 4 (.slice B' (o').length bc') (o') ∧ G = [] ∧ POK s (rd s.size (n + 1) 2 none ts) (o) code x b o' a' code') (e_call (vs := [.pointer (some ⟨rg, 0, none⟩)]) Tryz.func93 rfl (by kernel_rfl) rfl) rfl rfl rfl (fun w fr1 hfr hM => (hFac w _ _ _ o fr1 _ ts (by omega) hrs (by omega) hM).mono fun _ _ ⟨x, b, B', bc', o', a', code', h1, h2, h3⟩ => ⟨_, _, _, [], h1, ⟨x, b, B', bc', o', a', code', rfl, rfl, rfl, rfl, h2⟩, h3⟩) rfl rfl rfl ?_
    rintro _ _ _ _ ⟨x14, b14, B14, bc14, o14, a14, code14, rfl, rfl, rfl, rfl, hp14⟩
    refine gop (y_extract (v := .int _ _) rfl rfl) rfl rfl rfl ?_
    refine gop (y_extract (v := .bool _) rfl rfl) rfl rfl rfl ?_
    refine gop (y_assign (v := .int _ _) rfl) rfl rfl rfl ?_
    refine gop (y_assign (v := .bool _) rfl) rfl rfl rfl ?_
    refine gops_nil ?_
    refine hN4 _ _ ?_
    refine gT [box rg _, rowl _ _ _ _ _ _, fr] rfl ?_
    refine gfrom [(4, .int _ _), (5, .bool _)] ⟨rfl, rfl, trivial⟩ fun σ => ?_
    refine gret fun w1 hM => ?_
    refine ⟨_, res2 rfl (rt (v := .int _ _) rfl) (rt (v := .bool _) rfl), ?_⟩
    exact ⟨x14, b14, B14, bc14, o14, a14, code14, rfl, hp14, weak_take (T' := [_, _, fr]) rfl _ hM⟩
  · 
    replace hc12 := of_decide_eq_false hc12
    have hlv2 : lv < 2 := by omega
    have hR0 : (rd s.size (n + 1) lv none ts) = bindR (rd s.size n (lv + 1) none ts) fun t us => rd s.size n lv (some t) us := by rw [rd, if_neg (by omega)]
    refine gskip ?_
    refine hN2 _ _ ?_
    refine gfrom [(0, .pointer (some ⟨rg, 0, none⟩)), (1, .int _ _)] ⟨rfl, rfl, trivial⟩ fun σ => ?_
    refine gseq fun N5 hN5 => ?_
    refine greg ?_
    refine gop (y_assign (v := .string _) rfl) rfl rfl rfl ?_
    refine gop (y_assign (v := .int _ _) rfl) rfl rfl rfl ?_
    refine gops_nil ?_
    refine hN5 _ _ ?_
    refine gfrom [(0, .pointer (some ⟨rg, 0, none⟩)), (1, .int _ _), (6, .string _), (7, .int _ _)] ⟨rfl, rfl, rfl, rfl, trivial⟩ fun σ => ?_
    refine gseq fun N6 hN6 => ?_
    refine gfrom [(0, .pointer (some ⟨rg, 0, none⟩)), (1, .int _ _), (6, .string _), (7, .int _ _)] ⟨rfl, rfl, rfl, rfl, trivial⟩ fun σ => ?_
    refine gcut3 (Lf := [(0, .pointer (some ⟨rg, 0, none⟩)), (1, .int _ _)]) (G := Unit) (fun g => True) (fun g => [(6, .string (signL lv)), (7, .int .i64 (kindL lv))]) (fun g => []) ⟨rfl, rfl, trivial⟩ ?_ ?_
    ·
      refine gseq fun N7 hN7 => ?_
      refine greg ?_
      refine gop (y_move (v := .int _ _) rfl) rfl rfl rfl ?_
      refine gop (y_eql rfl rfl) rfl rfl rfl ?_
      refine gops_nil ?_
      refine hN7 _ _ ?_
      refine gfrom [(0, .pointer (some ⟨rg, 0, none⟩)), (1, .int _ _), (6, .string _), (7, .int _ _), (18, .bool _)] ⟨rfl, rfl, rfl, rfl, rfl, trivial⟩ fun σ => ?_
      refine gcond (b := _) rfl (fun hc18 => ?_) (fun hc18 => ?_)
      · 
        replace hc18 := of_decide_eq_true hc18
        refine greg ?_
        refine gop (y_assign (v := .string _) rfl) rfl rfl rfl ?_
        refine gop (y_assign (v := .int _ _) rfl) rfl rfl rfl ?_
        refine gops_nil ?_
        refine gcut3_end (()) (trivial) ⟨(congrArg Value.string (by first | (obtain rfl : lv = 1 := (by omega); rfl) | (obtain rfl : lv = 0 := (by omega); rfl))), (congrArg (Value.int .i64) (by first | (obtain rfl : lv = 1 := (by omega); rfl) | (obtain rfl : lv = 0 := (by omega); rfl))), trivial⟩ ⟨rfl, rfl, trivial⟩ ⟨_, rfl⟩
      · 
        replace hc18 := of_decide_eq_false hc18
        refine gskip ?_
        refine gcut3_end (()) (trivial) ⟨(congrArg Value.string (by first | (obtain rfl : lv = 1 := (by omega); rfl) | (obtain rfl : lv = 0 := (by omega); rfl))), (congrArg (Value.int .i64) (by first | (obtain rfl : lv = 1 := (by omega); rfl) | (obtain rfl : lv = 0 := (by omega); rfl))), trivial⟩ ⟨rfl, rfl, trivial⟩ ⟨_, rfl⟩
    ·
      intro g hcut σ
      refine hN6 _ _ ?_
      refine gseq fun N8 hN8 => ?_
      refine greg ?_
      refine gop (y_move (v := .pointer (some ⟨rg, 0, none⟩)) rfl) rfl rfl rfl ?_
      refine gop (y_move (v := .int _ _) rfl) rfl rfl rfl ?_
      refine gop (y_add rfl rfl ⟨by omega, by omega⟩) rfl rfl rfl ?_
      refine gop_does2 0 1 (fun v r s1 G => ∃ x b B' bc' o' a' code', v = .tuple #[.int .i64 x, .bool b] ∧ r = box rg (.cells #[.slice B' o'.length bc', .string s, .int .i64 ((a' : Nat)), .int .i64 ((nextW s (a') : Nat)), .int .i64 code'] 124) ∧ s1 = rowl pnCells w0.heap.size 48 4 (.slice B' (o').length bc') (o') ∧ G = [] ∧ POK s (rd s.size n (lv + 1) none ts) (o) code x b o' a' code') (e_call (vs := [.pointer (some ⟨rg, 0, none⟩), .int _ _]) Tryz.func55 rfl (by kernel_rfl) rfl) rfl rfl rfl (fun w fr1 hfr hM => (hLi n (Nat.le_refl _) (lv + 1) _ w _ _ _ o fr1 _ ts (by omega) (by omega) (by omega) hrs (by omega) hM).mono fun _ _ ⟨x, b, B', bc', o', a', code', h1, h2, h3⟩ => ⟨_, _, _, [], h1, ⟨x, b, B', bc', o', a', code', rfl, rfl, rfl, rfl, h2⟩, h3⟩) rfl rfl rfl ?_
      rintro _ _ _ _ ⟨x23, b23, B23, bc23, o23, a23, code23, rfl, rfl, rfl, rfl, hp23⟩
      refine gop (y_move (v := .tuple #[.int _ _, .bool _]) rfl) rfl rfl rfl ?_
      refine gop (y_extract (v := .int _ _) rfl rfl) rfl rfl rfl ?_
      refine gop (y_extract (v := .bool _) rfl rfl) rfl rfl rfl ?_
      refine gop (y_assign (v := .int _ _) rfl) rfl rfl rfl ?_
      refine gop (y_assign (v := .bool _) rfl) rfl rfl rfl ?_
      refine gops_nil ?_
      refine hN8 _ _ ?_
      refine gT [box rg _, rowl _ _ _ _ _ _, fr] rfl ?_
      refine gfrom [(0, .pointer (some ⟨rg, 0, none⟩)), (1, .int _ _), (6, .string _), (7, .int _ _), (8, .int _ _), (9, .bool _)] ⟨rfl, rfl, rfl, rfl, rfl, rfl, trivial⟩ fun σ => ?_
      refine gseq fun N9 hN9 => ?_
      refine gblock ?_
      refine gfrom2 [(8, .int _ _), (9, .bool _)] [(0, .pointer (some ⟨rg, 0, none⟩)), (1, .int _ _), (6, .string _), (7, .int _ _)] ⟨rfl, rfl, trivial⟩ ⟨rfl, rfl, rfl, rfl, trivial⟩ fun σ => ?_
      refine gloop2 (G := Nat × Int × Bool × Option Addr × Nat × List PN × Nat × Int) (fun (m, x, b, B, bc, o1, a1, code1) => LI s lv n (rd s.size (n + 1) lv none ts) o code m x b o1 a1 code1) (fun (m, x, b, B, bc, o1, a1, code1) => m) (fun (m, x, b, B, bc, o1, a1, code1) => [(8, .int .i64 x), (9, .bool b)]) (fun (m, x, b, B, bc, o1, a1, code1) => [(0, box rg (.cells #[.slice B o1.length bc, .string s, .int .i64 ((a1 : Nat)), .int .i64 ((nextW s (a1) : Nat)), .int .i64 code1] 124)), (1, rowl pnCells w0.heap.size 48 4 (.slice B (o1).length bc) (o1))]) ((n, x23, b23, B23, bc23, o23, a23, code23)) ?h0 ⟨rfl, rfl, trivial⟩ ⟨rfl, rfl, rfl, rfl, trivial⟩ rfl ?round
      case h0 => exact li_start hR0 hlv2 (by omega) hol hp23
      case round =>
        rintro ⟨m, x, b, B, bc, o1, a1, code1⟩ hli σ
        replace hli : LI s lv n (rd s.size (n + 1) lv none ts) o code m x b o1 a1 code1 := hli
        refine gT [box rg _, rowl _ _ _ _ _ _, fr] rfl ?_
        refine gseq fun N10 hN10 => ?_
        refine gseq fun N11 hN11 => ?_
        refine greg ?_
        refine gop (y_move (v := .bool _) rfl) rfl rfl rfl ?_
        refine gop (y_move (v := .bool _) rfl) rfl rfl rfl ?_
        refine gop_if (want := true) rfl rfl rfl rfl rfl rfl (fun hg27 => ?_) (fun hg27 => ?_)
        · 
          have hg27d := hg27
          obtain ⟨t, us, rfl, rfl, hru, rfl, hRm, hfm, hlen⟩ := li_ok hli (by assumption)
          refine gop (y_bare (y_move (v := .pointer (some ⟨rg, 0, none⟩)) rfl)) rfl rfl rfl ?_
          refine gop_on rfl rfl rfl rfl hg27 ?_
          refine gop (y_bare (y_move (v := .string _) rfl)) rfl rfl rfl ?_
          refine gop_on rfl rfl rfl rfl hg27 ?_
          refine gop_does1 0 (fun v r G => ∃ a' ts', v = .bool (decide (hd us = signL lv)) ∧ r = box rg (.cells #[.slice B (o ++ post t o.length).length bc, .string s, .int .i64 ((a' : Nat)), .int .i64 ((nextW s (a') : Nat)), .int .i64 code] 124) ∧ RS s a' ts' ∧ ts' = (if hd us = signL lv then us.tail else us) ∧ G = []) (e_call (vs := [.pointer (some ⟨rg, 0, none⟩), .string _]) Tryz.func94 rfl (by kernel_rfl) rfl) rfl (fun w fr1 hfr hM => (rdTake_any _ w rg _ _ _ s _ fr1 hs _ us hru _ hM).mono fun _ _ ⟨a', ts', h1, h2, h3, h4⟩ => ⟨_, _, [], h1, ⟨a', ts', rfl, rfl, h2, h3, rfl⟩, h4⟩) rfl rfl rfl ?_
          rintro _ _ _ ⟨a30, ts30, rfl, rfl, hrs30, hts30, rfl⟩
          refine gop (y_pick_t (v := .bool _) rfl hg27 rfl) rfl rfl rfl ?_
          refine gops_nil ?_
          refine hN11 _ _ ?_
          refine gT [box rg _, rowl _ _ _ _ _ _, fr] rfl ?_
          refine gfrom [(0, .pointer (some ⟨rg, 0, none⟩)), (1, .int _ _), (6, .string _), (7, .int _ _), (8, .int _ _), (9, .bool _), (31, .bool _)] ⟨rfl, rfl, rfl, rfl, rfl, rfl, rfl, trivial⟩ fun σ => ?_
          refine gcond (b := _) rfl (fun hc31 => ?_) (fun hc31 => ?_)
          · 
            have hsg : hd us = signL lv := by simpa using hc31
            obtain ⟨mm, rfl⟩ : ∃ k, m = k + 1 := ⟨m - 1, by omega⟩
            have ht30 : ts30 = us.tail := by rw [hts30, if_pos hsg]
            have hpl := hd_pos (ts := us) (by rw [hsg]; exact sign_ne lv)
            have htl30 : ts30.length + 1 = us.length := by rw [ht30]; exact hpl
            have hmn := hli.1
            have htp := t.pos
            have hRm1 : (rd s.size (n + 1) lv none ts) = bindR (rd s.size mm (lv + 1) none ts30) fun t2 ts' => rd s.size mm lv (some (.bin (kindL lv) t t2)) ts' := by rw [hRm, rd, if_pos hsg, ht30]
            refine gskip ?_
            refine hN10 _ _ ?_
            refine gfrom [(0, .pointer (some ⟨rg, 0, none⟩)), (1, .int _ _), (6, .string _), (7, .int _ _), (8, .int _ _)] ⟨rfl, rfl, rfl, rfl, rfl, trivial⟩ fun σ => ?_
            refine gblock ?_
            refine gseq fun N12 hN12 => ?_
            refine greg ?_
            refine gop (y_assign (v := .int _ _) rfl) rfl rfl rfl ?_
            refine gops_nil ?_
            refine hN12 _ _ ?_
            refine gfrom [(0, .pointer (some ⟨rg, 0, none⟩)), (1, .int _ _), (6, .string _), (7, .int _ _), (8, .int _ _)] ⟨rfl, rfl, rfl, rfl, rfl, trivial⟩ fun σ => ?_
            refine gseq fun N13 hN13 => ?_
            refine greg ?_
            refine gop (y_move (v := .pointer (some ⟨rg, 0, none⟩)) rfl) rfl rfl rfl ?_
            refine gop (y_move (v := .int _ _) rfl) rfl rfl rfl ?_
            refine gop (y_add rfl rfl ⟨by omega, by omega⟩) rfl rfl rfl ?_
            refine gop_does2 0 1 (fun v r s1 G => ∃ x b B' bc' o' a' code', v = .tuple #[.int .i64 x, .bool b] ∧ r = box rg (.cells #[.slice B' o'.length bc', .string s, .int .i64 ((a' : Nat)), .int .i64 ((nextW s (a') : Nat)), .int .i64 code'] 124) ∧ s1 = rowl pnCells w0.heap.size 48 4 (.slice B' (o').length bc') (o') ∧ G = [] ∧ POK s (rd s.size mm (lv + 1) none ts30) (o ++ post t o.length) code x b o' a' code') (e_call (vs := [.pointer (some ⟨rg, 0, none⟩), .int _ _]) Tryz.func55 rfl (by kernel_rfl) rfl) rfl rfl rfl (fun w fr1 hfr hM => (hLi mm (by omega) (lv + 1) _ w _ _ _ (o ++ post t o.length) fr1 _ ts30 (by omega) (by omega) (by omega) hrs30 (by rw [app_len]; omega) hM).mono fun _ _ ⟨x, b, B', bc', o', a', code', h1, h2, h3⟩ => ⟨_, _, _, [], h1, ⟨x, b, B', bc', o', a', code', rfl, rfl, rfl, rfl, h2⟩, h3⟩) rfl rfl rfl ?_
            rintro _ _ _ _ ⟨x36, b36, B36, bc36, o36, a36, code36, rfl, rfl, rfl, rfl, hp36⟩
            refine gop (y_move (v := .tuple #[.int _ _, .bool _]) rfl) rfl rfl rfl ?_
            refine gop (y_extract (v := .int _ _) rfl rfl) rfl rfl rfl ?_
            refine gop (y_extract (v := .bool _) rfl rfl) rfl rfl rfl ?_
            refine gop (y_assign (v := .int _ _) rfl) rfl rfl rfl ?_
            refine gop (y_assign (v := .bool _) rfl) rfl rfl rfl ?_
            refine gops_nil ?_
            refine hN13 _ _ ?_
            refine gT [box rg _, rowl _ _ _ _ _ _, fr] rfl ?_
            refine gfrom [(0, .pointer (some ⟨rg, 0, none⟩)), (1, .int _ _), (6, .string _), (7, .int _ _), (8, .int _ _), (9, .bool _), (10, .int _ _)] ⟨rfl, rfl, rfl, rfl, rfl, rfl, rfl, trivial⟩ fun σ => ?_
            refine gseq fun N14 hN14 => ?_
            refine greg ?_
            refine gop (y_move (v := .bool _) rfl) rfl rfl rfl ?_
            refine gops_nil ?_
            refine hN14 _ _ ?_
            refine gfrom [(0, .pointer (some ⟨rg, 0, none⟩)), (1, .int _ _), (6, .string _), (7, .int _ _), (8, .int _ _), (9, .bool _), (10, .int _ _), (39, .bool _)] ⟨rfl, rfl, rfl, rfl, rfl, rfl, rfl, rfl, trivial⟩ fun σ => ?_
            refine gcond (b := _) rfl (fun hc39 => ?_) (fun hc39 => ?_)
            · 
              have hb36 : b36 = true := hc39
              obtain ⟨t36, us36, hR36, hx36, ho36, hrt36, hcd36⟩ := pok_yes hp36 (by first | assumption | simpa using hc39)
              have hsz36 : t36.size + us36.length ≤ ts30.length := (rd_ok s.size mm (lv + 1) none ts30 t36 us36 (fun _ h => by cases h) hR36).2
              subst hx36
              subst ho36
              obtain rfl : code = code36 := hcd36.symm
              have hR2 : (rd s.size (n + 1) lv none ts) = rd s.size mm lv (some (.bin (kindL lv) t t36)) us36 := by rw [hRm1, hR36]; rfl
              have htp36 := t36.pos
              have hal := app_len o t
              refine greg ?_
              refine gop (y_move (v := .pointer (some ⟨rg, 0, none⟩)) rfl) rfl rfl rfl ?_
              refine gop (y_nilCheck rfl) rfl rfl rfl ?_
              refine gop (y_fieldAddr_box fa124_0 rfl) rfl rfl rfl ?_
              refine gop (y_move (v := .int _ _) rfl) rfl rfl rfl ?_
              refine gop (y_move (v := .int _ _) rfl) rfl rfl rfl ?_
              refine gop (y_move (v := .int _ _) rfl) rfl rfl rfl ?_
              refine gop (y_build (vs := [(0, .int _ _), (2, .int _ _), (3, .int _ _)]) (cells := #[_, .int .i64 0, _, _]) rfl (bd48_0_2_3 _ _ _)) rfl rfl rfl ?_
              refine gop_does2 0 1 (fun v r s1 G => ∃ B' bc', v = .int .i64 (((o ++ post t o.length) ++ post t36 (o ++ post t o.length).length).length : Nat) ∧ r = box rg (.cells #[.slice B' ((o ++ post t o.length) ++ post t36 (o ++ post t o.length).length ++ [(⟨kindL lv, 0, ((o.length + t.size : Nat) : Int) - 1, (((o ++ post t o.length).length + t36.size : Nat) : Int) - 1⟩ : PN)]).length bc', .string s, .int .i64 ((a36 : Nat)), .int .i64 ((nextW s (a36) : Nat)), .int .i64 code] 124) ∧ s1 = rowl pnCells w0.heap.size 48 4 (.slice B' ((o ++ post t o.length) ++ post t36 (o ++ post t o.length).length ++ [(⟨kindL lv, 0, ((o.length + t.size : Nat) : Int) - 1, (((o ++ post t o.length).length + t36.size : Nat) : Int) - 1⟩ : PN)]).length bc') ((o ++ post t o.length) ++ post t36 (o ++ post t o.length).length ++ [(⟨kindL lv, 0, ((o.length + t.size : Nat) : Int) - 1, (((o ++ post t o.length).length + t36.size : Nat) : Int) - 1⟩ : PN)]) ∧ G = []) (e_call (vs := [.pointer _, .agg #[_, _, _, _]]) Tryz.func95 rfl (by kernel_rfl) rfl) rfl rfl rfl (fun w fr1 hfr hM => (polAdd5_any _ w rg _ _ s _ _ _ ((o ++ post t o.length) ++ post t36 (o ++ post t o.length).length) fr1 hM (by rw [app_len, app_len]; omega) ((⟨kindL lv, 0, ((o.length + t.size : Nat) : Int) - 1, (((o ++ post t o.length).length + t36.size : Nat) : Int) - 1⟩ : PN))).mono fun _ _ ⟨B', bc', h1, h2⟩ => ⟨_, _, _, [], h1, ⟨B', bc', rfl, rfl, rfl, rfl⟩, h2⟩) rfl rfl rfl ?_
              rintro _ _ _ _ ⟨B47, bc47, rfl, rfl, rfl, rfl⟩
              refine gop (y_assign (v := .int _ _) rfl) rfl rfl rfl ?_
              refine gops_nil ?_
              refine gnext2 ((mm, (((o ++ post t o.length) ++ post t36 (o ++ post t o.length).length).length : Nat), b36, B47, bc47, (o ++ post t o.length) ++ post t36 (o ++ post t o.length).length ++ [(⟨kindL lv, 0, ((o.length + t.size : Nat) : Int) - 1, (((o ++ post t o.length).length + t36.size : Nat) : Int) - 1⟩ : PN)], a36, code)) (by show mm < mm + 1; omega) (⟨by omega, .inr ⟨hb36, .bin (kindL lv) t t36, us36, by rw [app_len, app_len, size_bin]; omega, post_bin_app o (kindL lv) t t36, hrt36, rfl, hR2, by omega, by rw [size_bin]; omega⟩⟩) ⟨rfl, rfl, trivial⟩ ⟨rfl, rfl, rfl, rfl, trivial⟩ ⟨_, rfl⟩
            · 
              have hb36 : b36 = false := by simpa using hc39
              obtain ⟨hR36, ho36⟩ := pok_no hp36 hb36
              have hR2 : (rd s.size (n + 1) lv none ts) = .bad code36 a36 := by rw [hRm1, hR36]; rfl
              refine gskip ?_
              refine gnext2 ((mm, _, b36, B36, bc36, o36, a36, code36)) (by show mm < mm + 1; omega) (⟨by omega, .inl ⟨hb36, hR2, ho36⟩⟩) ⟨rfl, rfl, trivial⟩ ⟨rfl, rfl, rfl, rfl, trivial⟩ ⟨_, rfl⟩
          · 
            refine gexit ?_
            refine hN9 _ _ ?_
            refine gfrom [(8, .int _ _), (9, .bool _)] ⟨rfl, rfl, trivial⟩ fun σ => ?_
            refine gseq fun N15 hN15 => ?_
            refine greg ?_
            refine gop (y_move (v := .int _ _) rfl) rfl rfl rfl ?_
            refine gop (y_move (v := .bool _) rfl) rfl rfl rfl ?_
            refine gop (y_assign (v := .int _ _) rfl) rfl rfl rfl ?_
            refine gop (y_assign (v := .bool _) rfl) rfl rfl rfl ?_
            refine gops_nil ?_
            refine hN15 _ _ ?_
            refine gfrom [(4, .int _ _), (5, .bool _)] ⟨rfl, rfl, trivial⟩ fun σ => ?_
            refine gret fun w1 hM => ?_
            refine ⟨_, res2 rfl (rt (v := .int _ _) rfl) (rt (v := .bool _) rfl), ?_⟩
            first
            | (have hne : ¬ hd us = signL lv := by simpa using hc31
               have hRx : (rd s.size (n + 1) lv none ts) = .ok t us := by
                 obtain ⟨mm, rfl⟩ : ∃ k, m = k + 1 := ⟨m - 1, by omega⟩
                 rw [hRm, rd, if_neg hne]
               obtain rfl : us = ts30 := by rw [hts30, if_neg hne]
               exact ⟨_, _, B, bc, _, _, _, rfl, pok_ok2 (by assumption) hRx rfl rfl hrs30, weak_take (T' := [_, _, fr]) rfl _ hM⟩)
            | (obtain ⟨hRb, hob⟩ := li_bad hli (by assumption)
               exact ⟨_, _, _, _, _, _, _, rfl, pok_bad2 (by assumption) hRb hob, weak_take (T' := [_, _, fr]) rfl _ hM⟩)
        · 
          have hg27d := hg27
          refine gop_off rfl rfl rfl rfl hg27 rfl rfl ?_
          refine gop_off rfl rfl rfl rfl hg27 rfl rfl ?_
          refine gop (y_pick_f (v := .bool _) rfl hg27 rfl) rfl rfl rfl ?_
          refine gops_nil ?_
          refine hN11 _ _ ?_
          refine gfrom [(0, .pointer (some ⟨rg, 0, none⟩)), (1, .int _ _), (6, .string _), (7, .int _ _), (8, .int _ _), (9, .bool _), (31, .bool _)] ⟨rfl, rfl, rfl, rfl, rfl, rfl, rfl, trivial⟩ fun σ => ?_
          refine gcond (b := _) rfl (fun hc31 => ?_) (fun hc31 => ?_)
          · 
            cases hc31
          · 
            refine gexit ?_
            refine hN9 _ _ ?_
            refine gfrom [(8, .int _ _), (9, .bool _)] ⟨rfl, rfl, trivial⟩ fun σ => ?_
            refine gseq fun N16 hN16 => ?_
            refine greg ?_
            refine gop (y_move (v := .int _ _) rfl) rfl rfl rfl ?_
            refine gop (y_move (v := .bool _) rfl) rfl rfl rfl ?_
            refine gop (y_assign (v := .int _ _) rfl) rfl rfl rfl ?_
            refine gop (y_assign (v := .bool _) rfl) rfl rfl rfl ?_
            refine gops_nil ?_
            refine hN16 _ _ ?_
            refine gfrom [(4, .int _ _), (5, .bool _)] ⟨rfl, rfl, trivial⟩ fun σ => ?_
            refine gret fun w1 hM => ?_
            refine ⟨_, res2 rfl (rt (v := .int _ _) rfl) (rt (v := .bool _) rfl), ?_⟩
            first
            | (have hne : ¬ hd us = signL lv := by simpa using hc31
               have hRx : (rd s.size (n + 1) lv none ts) = .ok t us := by
                 obtain ⟨mm, rfl⟩ : ∃ k, m = k + 1 := ⟨m - 1, by omega⟩
                 rw [hRm, rd, if_neg hne]
               obtain rfl : us = ts30 := by rw [hts30, if_neg hne]
               exact ⟨_, _, B, bc, _, _, _, rfl, pok_ok2 (by assumption) hRx rfl rfl hrs30, weak_take (T' := [_, _, fr]) rfl _ hM⟩)
            | (obtain ⟨hRb, hob⟩ := li_bad hli (by assumption)
               exact ⟨_, _, _, _, _, _, _, rfl, pok_bad2 (by assumption) hRb hob, weak_take (T' := [_, _, fr]) rfl _ hM⟩)
end Go.Proofs.YtbkameioedmlkaaGreatDoor
namespace Go.Proofs.YtbkameioedmlkaaGreatDoor
open Go.RowKit Go.Cf
theorem rd_both (w0 : World) (s : ByteArray) (hs : s.size ≤ 200) (hL : LaidP w0) (rg : Nat) : ∀ n, (∀ m, m ≤ n → ListH w0 s rg m) ∧ FacH w0 s rg n
  | 0 => ⟨fun m hm lv vi w B bc code o fr a ts hlv hvi hfu => by omega, fun w B bc code o fr a ts hfu => by omega⟩
  | n + 1 => by
    obtain ⟨h1, h2⟩ := rd_both w0 s hs hL rg n
    have h3 := rdFactor_step w0 s hs hL rg n h2 (h1 n (Nat.le_refl _))
    refine ⟨fun m hm => ?_, h3⟩
    rcases Nat.lt_or_ge n m with h | h
    · obtain rfl : m = n + 1 := by omega
      exact rdList_step w0 s hs rg n h3 h1
    · exact h1 m h
end Go.Proofs.YtbkameioedmlkaaGreatDoor
namespace Go.Proofs.YtbkameioedmlkaaGreatDoor
open Go.RowKit Go.Cf
set_option maxRecDepth 10000
theorem bd124_1 (x1 : ByteArray) : Tryz.prog.built 124 [(1, .string x1)] = some #[.slice none 0 0, .string x1, .int .i64 0, .int .i64 0, .int .i64 0] := by kernel_rfl
set_option maxHeartbeats 8000000 in
theorem polParse_any (w : World) (s : ByteArray) (hL : LaidP w) (hs0 : s.size ≤ 9223372036854775807) :
    Calls Tryz.prog 27 #[.string s] w fun e w' => ∃ pv, e = .returned (.tuple #[.agg #[pv], fv (parR s).1]) ∧ Below w.heap.size w w' ∧ NewL 4 pnCells (parR s).2 w.heap.size w' pv := by
  refine gcalls Tryz.func27 rfl Tryz.ntmps27 (Nat.le_of_ble_eq_true rfl) ?_
  refine gfrom [(0, .string s)] ⟨rfl, trivial⟩ fun σ => ?_
  refine gseq fun N1 hN1 => ?_
  refine greg ?_
  refine gop_alloc (cs := #[.slice none 0 0]) Tryz.zeroValue43 rfl rfl (fun b2 hb2 => ?_)
  refine gop_alloc (cs := #[.int .i64 0, .int .i64 0]) Tryz.zeroValue33 rfl rfl (fun b3 hb3 => ?_)
  refine gops_nil ?_
  refine hN1 _ _ ?_
  refine gT [box b2 _, box b3 _] rfl ?_
  refine gfrom [(0, .string s), (2, .pointer _), (3, .pointer _)] ⟨rfl, rfl, rfl, trivial⟩ fun σ => ?_
  refine gseq fun N2 hN2 => ?_
  refine gseq fun N3 hN3 => ?_
  refine greg ?_
  refine gop (y_move (v := .string s) rfl) rfl rfl rfl ?_
  refine gop (y_lens Tryz.underlying9 rfl) rfl rfl rfl ?_
  refine gop (y_gtr rfl rfl) rfl rfl rfl ?_
  refine gops_nil ?_
  refine hN3 _ _ ?_
  refine gfrom [(0, .string s), (2, .pointer _), (3, .pointer _), (9, .bool _)] ⟨rfl, rfl, rfl, rfl, trivial⟩ fun σ => ?_
  refine gcond (b := _) rfl (fun hc9 => ?_) (fun hc9 => ?_)
  · 
    replace hc9 := of_decide_eq_true hc9
    have hP : parR s = (⟨2, -1⟩, []) := by rw [parR, if_pos (by omega)]
    refine gseq fun N4 hN4 => ?_
    refine greg ?_
    refine gop (y_build (vs := []) (cells := #[.slice none 0 0]) rfl bd43_) rfl rfl rfl ?_
    refine gop (y_build (vs := [(0, _), (1, _)]) (cells := #[_, _]) rfl (bd33_0_1 _ _)) rfl rfl rfl ?_
    refine gop_store 0 (v := .agg #[_]) (cs' := #[_]) rfl rfl Tryz.sizeOf43 rfl rfl rfl rfl (Nat.le_of_ble_eq_true rfl) rfl rfl ?_
    refine gop_store 1 (v := .agg #[_, _]) (cs' := #[_, _]) rfl rfl Tryz.sizeOf33 rfl rfl rfl rfl (Nat.le_of_ble_eq_true rfl) rfl rfl ?_
    refine gops_nil ?_
    refine hN4 _ _ ?_
    refine gT [box b2 _, box b3 _] rfl ?_
    refine gfrom [(2, .pointer _), (3, .pointer _)] ⟨rfl, rfl, trivial⟩ fun σ => ?_
    refine gret fun w1 hM => ?_
    refine ⟨_, res2 rfl (rc 0 (cs := [_]) hM rfl rfl Tryz.isAgg43 Tryz.sizeOf43 rfl) (rc 1 (cs := [_, _]) hM rfl rfl Tryz.isAgg33 Tryz.sizeOf33 rfl), ?_⟩
    rw [hP]
    exact ⟨_, rfl, hM.low, newL_nil⟩
  · 
    replace hc9 := of_decide_eq_false hc9
    have hs : s.size ≤ 200 := by omega
    refine gskip ?_
    refine hN2 _ _ ?_
    refine gfrom [(0, .string s), (2, .pointer _), (3, .pointer _)] ⟨rfl, rfl, rfl, trivial⟩ fun σ => ?_
    refine gseq fun N5 hN5 => ?_
    refine greg ?_
    refine gop (y_move (v := .string s) rfl) rfl rfl rfl ?_
    refine gop (y_build (vs := [(1, .string s)]) (cells := #[.slice none 0 0, _, .int .i64 0, .int .i64 0, .int .i64 0]) rfl (bd124_1 _)) rfl rfl rfl ?_
    refine gop_alloc (cs := #[.slice none 0 0, .string .empty, .int .i64 0, .int .i64 0, .int .i64 0]) Tryz.zeroValue124 rfl rfl (fun b4 hb4 => ?_)
    refine gop_store 2 (v := .agg #[_, _, _, _, _]) (cs' := #[_, _, _, _, _]) rfl rfl Tryz.sizeOf124 rfl rfl rfl rfl (Nat.le_of_ble_eq_true rfl) rfl rfl ?_
    refine gops_nil ?_
    refine hN5 _ _ ?_
    refine gT [box b2 _, box b3 _, box b4 _] rfl ?_
    refine gfrom [(0, .string s), (2, .pointer _), (3, .pointer _), (4, .pointer _)] ⟨rfl, rfl, rfl, rfl, trivial⟩ fun σ => ?_
    refine gseq fun N6 hN6 => ?_
    refine greg ?_
    refine gop_does1 2 (fun v r G => v = .tuple #[] ∧ r = box b4 (.cells #[.slice none 0 0, .string s, .int .i64 ((skipW s 0 : Nat)), .int .i64 ((nextW s (skipW s 0) : Nat)), .int .i64 0] 124) ∧ G = []) (e_call (vs := [.pointer _]) Tryz.func54 rfl (by kernel_rfl) rfl) rfl (fun w fr1 hfr hM => (rdScan_any _ w b4 _ _ _ s _ fr1 hs _ _ 0 rfl (Nat.zero_le _) hM).mono fun _ _ ⟨h1, h2⟩ => ⟨_, _, [], h1, ⟨rfl, rfl, rfl⟩, h2⟩) rfl rfl rfl ?_
    rintro _ _ _ ⟨rfl, rfl, rfl⟩
    refine gops_nil ?_
    refine hN6 _ _ ?_
    refine gT [box b2 _, box b3 _, box b4 _] rfl ?_
    refine gfrom [(0, .string s), (2, .pointer _), (3, .pointer _), (4, .pointer _)] ⟨rfl, rfl, rfl, rfl, trivial⟩ fun σ => ?_
    refine gseq fun N7 hN7 => ?_
    refine greg ?_
    refine gops_nilrow pnCells 48 4 ?_
    refine gop_does2 2 3 (fun v r s1 G => ∃ x b B' bc' o' a' code', v = .tuple #[.int .i64 x, .bool b] ∧ r = box b4 (.cells #[.slice B' o'.length bc', .string s, .int .i64 ((a' : Nat)), .int .i64 ((nextW s (a') : Nat)), .int .i64 code'] 124) ∧ s1 = rowl pnCells w.heap.size 48 4 (.slice B' (o').length bc') (o') ∧ G = [] ∧ POK s (rd s.size (fuelOf s) 0 none (tks s 0)) ([]) 0 x b o' a' code') (e_call (vs := [.pointer _, _]) Tryz.func55 rfl (by kernel_rfl) rfl) rfl rfl rfl (fun w fr1 hfr hM => ((rd_both _ s hs hL b4 (fuelOf s)).1 _ (Nat.le_refl _) 0 _ w _ _ _ [] fr1 _ (tks s 0) (by omega) rfl (by unfold fuelOf; omega) (RS.start s) (by have h9 := tks_len s _ 0 rfl; simp; omega) hM).mono fun _ _ ⟨x, b, B', bc', o', a', code', h1, h2, h3⟩ => ⟨_, _, _, [], h1, ⟨x, b, B', bc', o', a', code', rfl, rfl, rfl, rfl, h2⟩, h3⟩) rfl rfl rfl ?_
    rintro _ _ _ _ ⟨x16, b16, B16, bc16, o16, a16, code16, rfl, rfl, rfl, rfl, hp16⟩
    refine gops_fact (fun w hM => row_form (hM.ok _ (List.mem_of_getElem? (i := 3) rfl))) ?_
    rintro ⟨A16, c16, hv16, hc16, hm16, hn16⟩
    simp only [Value.slice.injEq] at hv16
    obtain ⟨rfl, -, rfl⟩ := hv16
    refine gop (y_move (v := .tuple #[.int _ _, .bool _]) rfl) rfl rfl rfl ?_
    refine gop (y_extract (v := .int _ _) rfl rfl) rfl rfl rfl ?_
    refine gop (y_extract (v := .bool _) rfl rfl) rfl rfl rfl ?_
    refine gop (y_assign (v := .int _ _) rfl) rfl rfl rfl ?_
    refine gop (y_assign (v := .bool _) rfl) rfl rfl rfl ?_
    refine gops_nil ?_
    refine hN7 _ _ ?_
    refine gT [box b2 _, box b3 _, box b4 _, rowl _ _ _ _ _ _] rfl ?_
    refine gfrom [(0, .string s), (2, .pointer _), (3, .pointer _), (4, .pointer _), (6, .bool _)] ⟨rfl, rfl, rfl, rfl, rfl, trivial⟩ fun σ => ?_
    refine gseq fun N8 hN8 => ?_
    refine gfrom [(0, .string s), (2, .pointer _), (3, .pointer _), (4, .pointer _), (6, .bool _)] ⟨rfl, rfl, rfl, rfl, rfl, trivial⟩ fun σ => ?_
    refine gcut3 (Lf := [(2, .pointer _), (3, .pointer _), (4, .pointer _)]) (G := Bool × Int × Nat) (fun (b, cd, ac) => (b = false ∧ parR s = (⟨cd, ac⟩, [])) ∨ (b = true ∧ ∃ t : Tr, t.ok ∧ t.size ≤ 1000 ∧ o16 = post t 0 ∧ parR s = madeR t)) (fun (b, cd, ac) => [(6, .bool b)]) (fun (b, cd, ac) => [(2, box b4 (.cells #[.slice B16 o16.length bc16, .string s, .int .i64 ((ac : Nat)), .int .i64 ((nextW s (ac) : Nat)), .int .i64 cd] 124))]) ⟨rfl, rfl, rfl, trivial⟩ ?_ ?_
    ·
      refine gseq fun N9 hN9 => ?_
      refine greg ?_
      refine gop (y_move (v := .bool _) rfl) rfl rfl rfl ?_
      refine gop (y_move (v := .bool _) rfl) rfl rfl rfl ?_
      refine gop_if (want := true) rfl rfl rfl rfl rfl rfl (fun hg20 => ?_) (fun hg20 => ?_)
      · 
        have hg20d := hg20
        have hb16 : b16 = true := by assumption
        obtain ⟨t, us, hR, hx, ho, hrt, -⟩ := pok_yes hp16 hb16
        obtain ⟨hto, hts⟩ := rd_ok s.size _ _ none _ _ _ (fun _ h => by cases h) hR
        have htl := tks_len s _ 0 rfl
        simp only [Option.map, Option.getD] at hts
        refine gop (y_bare (y_fieldAddr_box fa124_2 rfl)) rfl rfl rfl ?_
        refine gop_on rfl rfl rfl rfl hg20 ?_
        refine gop (y_bare (y_load Tryz.isAgg3 rfl (cell_box 2 rfl rfl))) rfl rfl rfl ?_
        refine gop_on rfl rfl rfl rfl hg20 ?_
        refine gop (y_bare (y_move (v := .string s) rfl)) rfl rfl rfl ?_
        refine gop_on rfl rfl rfl rfl hg20 ?_
        refine gop (y_bare (y_lens Tryz.underlying9 rfl)) rfl rfl rfl ?_
        refine gop_on rfl rfl rfl rfl hg20 ?_
        refine gop (y_bare (y_lss rfl rfl)) rfl rfl rfl ?_
        refine gop (y_pick_t (v := .bool _) rfl hg20 rfl) rfl rfl rfl ?_
        refine gops_nil ?_
        refine hN9 _ _ ?_
        refine gfrom [(2, .pointer _), (3, .pointer _), (4, .pointer _), (6, .bool _), (26, .bool _)] ⟨rfl, rfl, rfl, rfl, rfl, trivial⟩ fun σ => ?_
        refine gcond (b := _) rfl (fun hc26 => ?_) (fun hc26 => ?_)
        · 
          replace hc26 := of_decide_eq_true hc26
          have hus : us ≠ [] := fun h => hrt.nil.1 h (by omega)
          have hP : parR s = (⟨1, a16⟩, []) := by
            rw [parR, if_neg (by omega), hR]
            show (if us = [] then madeR t else (⟨1, pos s.size us⟩, [])) = _
            rw [if_neg hus, hrt.pos]
          refine greg ?_
          refine gop_does1 2 (fun v r G => v = .tuple #[.int .i64 0, .bool false] ∧ r = box b4 (.cells #[.slice B16 o16.length bc16, .string s, .int .i64 ((a16 : Nat)), .int .i64 ((nextW s (a16) : Nat)), .int .i64 1] 124) ∧ G = []) (e_call (vs := [.pointer _, _]) Tryz.func56 rfl (by kernel_rfl) rfl) rfl (fun w fr1 hfr hM => (rdFail_any _ w b4 _ _ _ s _ _ _ fr1 1 hM).mono fun _ _ ⟨h1, h2⟩ => ⟨_, _, [], h1, ⟨rfl, rfl, rfl⟩, h2⟩) rfl rfl rfl ?_
          rintro _ _ _ ⟨rfl, rfl, rfl⟩
          refine gop (y_move (v := .tuple #[.int _ _, .bool _]) rfl) rfl rfl rfl ?_
          refine gop (y_extract (v := .int _ _) rfl rfl) rfl rfl rfl ?_
          refine gop (y_extract (v := .bool _) rfl rfl) rfl rfl rfl ?_
          refine gop (y_assign (v := .bool _) rfl) rfl rfl rfl ?_
          refine gops_nil ?_
          refine gcut3_end ((false, 1, a16)) (.inl ⟨rfl, hP⟩) ⟨rfl, trivial⟩ ⟨rfl, rfl, rfl, trivial⟩ ⟨_, rfl⟩
        · 
          replace hc26 := of_decide_eq_false hc26
          first
          | (have hP : parR s = madeR t := by
               rw [parR, if_neg (by omega), hR]
               show (if us = [] then madeR t else (⟨1, pos s.size us⟩, [])) = _
               rw [if_pos (hrt.nil.2 (by omega))])
          | skip
          refine gskip ?_
          refine gcut3_end ((b16, code16, a16)) (.inr ⟨hb16, t, hto, by omega, ho, hP⟩) ⟨rfl, trivial⟩ ⟨rfl, rfl, rfl, trivial⟩ ⟨_, rfl⟩
      · 
        have hg20d := hg20
        have hb16 : b16 = false := by assumption
        obtain ⟨hR, -⟩ := pok_no hp16 hb16
        have hP : parR s = (⟨code16, a16⟩, []) := by rw [parR, if_neg (by omega), hR]
        refine gop_off rfl rfl rfl rfl hg20 rfl rfl ?_
        refine gop_off rfl rfl rfl rfl hg20 rfl rfl ?_
        refine gop_off rfl rfl rfl rfl hg20 rfl rfl ?_
        refine gop_off rfl rfl rfl rfl hg20 rfl rfl ?_
        refine gop (y_pick_f (v := .bool _) rfl hg20 rfl) rfl rfl rfl ?_
        refine gops_nil ?_
        refine hN9 _ _ ?_
        refine gfrom [(2, .pointer _), (3, .pointer _), (4, .pointer _), (6, .bool _), (26, .bool _)] ⟨rfl, rfl, rfl, rfl, rfl, trivial⟩ fun σ => ?_
        refine gcond (b := _) rfl (fun hc26 => ?_) (fun hc26 => ?_)
        · 
          cases hc26
        · 
          first
          | (have hP : parR s = madeR t := by
               rw [parR, if_neg (by omega), hR]
               show (if us = [] then madeR t else (⟨1, pos s.size us⟩, [])) = _
               rw [if_pos (hrt.nil.2 (by omega))])
          | skip
          refine gskip ?_
          refine gcut3_end ((b16, code16, a16)) (.inl ⟨hb16, hP⟩) ⟨rfl, trivial⟩ ⟨rfl, rfl, rfl, trivial⟩ ⟨_, rfl⟩
    ·
      rintro ⟨b, cd, ac⟩ hcut σ
      refine hN8 _ _ ?_
      refine gseq fun N10 hN10 => ?_
      refine gseq fun N11 hN11 => ?_
      refine greg ?_
      refine gop (y_move (v := .bool _) rfl) rfl rfl rfl ?_
      refine gop (y_not rfl) rfl rfl rfl ?_
      refine gops_nil ?_
      refine hN11 _ _ ?_
      refine gT [box b2 _, box b3 _, box b4 _, rowl _ _ _ _ _ _] rfl ?_
      refine gfrom [(2, .pointer _), (3, .pointer _), (4, .pointer _), (32, .bool _)] ⟨rfl, rfl, rfl, rfl, trivial⟩ fun σ => ?_
      refine gcond (b := _) rfl (fun hc32 => ?_) (fun hc32 => ?_)
      · 
        replace hc32 := not_t hc32
        have hb : b = false := by simpa using hc32
        have hP : parR s = (⟨cd, ac⟩, []) := by
          rcases hcut with h9 | h9
          · exact h9.2
          · rw [hb] at h9; exact absurd h9.1 (by decide)
        refine gseq fun N12 hN12 => ?_
        refine greg_e1 [] [(0, room b2 43 1), (1, room b3 33 2)] (by kernel_rfl) ?_
        refine ge_take 0 (TK := [room b2 43 1, room b3 33 2, box b4 _, rowl _ _ _ _ _ _]) rfl (by kernel_rfl) (by kernel_rfl) (by kernel_rfl) #[false, true, true, true, true, true, false, false] (by kernel_rfl) rfl (y_build (vs := []) (cells := #[.slice none 0 0]) rfl bd43_) rfl rfl rfl (weak_trans (weak_room 0 rfl rfl) (weak_room 1 rfl rfl)) (listed' := #[true, false, false, false, false, false, false, false]) rfl ?_
        refine ge_take 1 (TK := [room b2 43 1, room b3 33 2, box b4 _, rowl _ _ _ _ _ _]) rfl (by kernel_rfl) (by kernel_rfl) (by kernel_rfl) #[true, false, false, true, true, false, true, false] (by kernel_rfl) rfl (y_fieldAddr_box fa124_4 rfl) rfl rfl rfl (weak_trans (weak_room 0 rfl rfl) (weak_room 1 rfl rfl)) (listed' := #[true, true, false, false, false, false, false, false]) rfl ?_
        refine ge_take 2 (TK := [room b2 43 1, room b3 33 2, box b4 _, rowl _ _ _ _ _ _]) rfl (by kernel_rfl) (by kernel_rfl) (by kernel_rfl) #[true, true, false, true, true, false, true, false] (by kernel_rfl) rfl (y_load Tryz.isAgg3 rfl (cell_box 2 rfl rfl)) rfl rfl rfl (weak_trans (weak_room 0 rfl rfl) (weak_room 1 rfl rfl)) (listed' := #[true, true, true, false, false, false, false, false]) rfl ?_
        refine ge_take 3 (TK := [room b2 43 1, room b3 33 2, box b4 _, rowl _ _ _ _ _ _]) rfl (by kernel_rfl) (by kernel_rfl) (by kernel_rfl) #[true, true, true, false, false, false, true, false] (by kernel_rfl) rfl (y_fieldAddr_box fa124_2 rfl) rfl rfl rfl (weak_trans (weak_room 0 rfl rfl) (weak_room 1 rfl rfl)) (listed' := #[true, true, true, true, false, false, false, false]) rfl ?_
        refine ge_take 4 (TK := [room b2 43 1, room b3 33 2, box b4 _, rowl _ _ _ _ _ _]) rfl (by kernel_rfl) (by kernel_rfl) (by kernel_rfl) #[true, true, true, true, false, false, true, false] (by kernel_rfl) rfl (y_load Tryz.isAgg3 rfl (cell_box 2 rfl rfl)) rfl rfl rfl (weak_trans (weak_room 0 rfl rfl) (weak_room 1 rfl rfl)) (listed' := #[true, true, true, true, true, false, false, false]) rfl ?_
        refine ge_take 5 (TK := [room b2 43 1, room b3 33 2, box b4 _, rowl _ _ _ _ _ _]) rfl (by kernel_rfl) (by kernel_rfl) (by kernel_rfl) #[true, true, true, true, true, false, true, false] (by kernel_rfl) rfl (y_build (vs := [(0, .int _ _), (1, .int _ _)]) (cells := #[_, _]) rfl (bd33_0_1 _ _)) rfl rfl rfl (weak_trans (weak_room 0 rfl rfl) (weak_room 1 rfl rfl)) (listed' := #[true, true, true, true, true, true, false, false]) rfl ?_
        refine ge_one 6 (k' := 0) (listed' := #[true, true, true, true, true, true, true, false]) (by kernel_rfl) rfl rfl rfl ?_
        refine gop_store 0 (v := .agg #[_]) (cs' := #[_]) rfl rfl Tryz.sizeOf43 rfl rfl rfl rfl (Nat.le_of_ble_eq_true rfl) rfl rfl ?_
        refine gops_nil ?_
        refine ge_fin (TK := [room b2 43 1, room b3 33 2, box b4 _, rowl _ _ _ _ _ _]) rfl (weak_trans (weak_room 0 rfl rfl) (weak_room 1 rfl rfl)) ?_
        refine ge_one 7 (k' := 0) (listed' := #[true, true, true, true, true, true, true, true]) (by kernel_rfl) rfl rfl rfl ?_
        refine gop_store 1 (v := .agg #[_, _]) (cs' := #[_, _]) rfl rfl Tryz.sizeOf33 rfl rfl rfl rfl (Nat.le_of_ble_eq_true rfl) rfl rfl ?_
        refine gops_nil ?_
        refine ge_fin (TK := [room b2 43 1, room b3 33 2, box b4 _, rowl _ _ _ _ _ _]) rfl (weak_trans (weak_room 0 rfl rfl) (weak_room 1 rfl rfl)) ?_
        refine ge_done (by kernel_rfl) ?_
        refine hN12 _ _ ?_
        refine gT [box b2 _, box b3 _, box b4 _, rowl _ _ _ _ _ _] rfl ?_
        refine gfrom [(2, .pointer _), (3, .pointer _)] ⟨rfl, rfl, trivial⟩ fun σ => ?_
        refine gret fun w1 hM => ?_
        refine ⟨_, res2 rfl (rc 0 (cs := [_]) hM rfl rfl Tryz.isAgg43 Tryz.sizeOf43 rfl) (rc 1 (cs := [_, _]) hM rfl rfl Tryz.isAgg33 Tryz.sizeOf33 rfl), ?_⟩
        rw [hP]
        exact ⟨_, rfl, hM.low, newL_nil⟩
      · 
        replace hc32 := not_f hc32
        have hb : b = true := by simpa using hc32
        obtain ⟨t, hto, hts, rfl, hP⟩ : ∃ t : Tr, t.ok ∧ t.size ≤ 1000 ∧ o16 = post t 0 ∧ parR s = madeR t := by
          rcases hcut with h9 | h9
          · rw [hb] at h9; exact absurd h9.1 (by decide)
          · exact h9.2
        refine gskip ?_
        refine hN10 _ _ ?_
        refine gfrom [(2, .pointer _), (3, .pointer _), (4, .pointer _)] ⟨rfl, rfl, rfl, trivial⟩ fun σ => ?_
        refine gseq fun N13 hN13 => ?_
        refine greg ?_
        refine gop (y_fieldAddr_box fa124_0 rfl) rfl rfl rfl ?_
        refine gop_pure (e_call (vs := [.pointer _]) Tryz.func57 rfl (by kernel_rfl) rfl) (fun w hM => polMade1_any w b4 _ _ t hto (by omega) (cell_box 2 (off := 0) rfl rfl w hM) ((row_rdl (f := pnCells) (fun _ => rfl) (hM.ok _ (List.mem_of_getElem? (i := 3) rfl))).mono (Nat.zero_le _)) hc16 hm16) rfl rfl rfl ?_
        refine gop (y_extract (v := .agg #[_]) rfl rfl) rfl rfl rfl ?_
        refine gop (y_extract (v := .agg #[_, _]) rfl rfl) rfl rfl rfl ?_
        refine gop_store 0 (v := .agg #[_]) (cs' := #[_]) rfl rfl Tryz.sizeOf43 rfl rfl rfl rfl (Nat.le_of_ble_eq_true rfl) rfl rfl ?_
        refine gop_store 1 (v := .agg #[_, _]) (cs' := #[_, _]) rfl rfl Tryz.sizeOf33 rfl rfl rfl rfl (Nat.le_of_ble_eq_true rfl) rfl rfl ?_
        refine gops_nil ?_
        refine hN13 _ _ ?_
        refine gT [box b2 _, box b3 _, box b4 _, rowl _ _ _ _ _ _] rfl ?_
        refine gfrom [(2, .pointer _), (3, .pointer _)] ⟨rfl, rfl, trivial⟩ fun σ => ?_
        refine gret fun w1 hM => ?_
        refine ⟨_, res2 rfl (rc 0 (cs := [_]) hM rfl rfl Tryz.isAgg43 Tryz.sizeOf43 rfl) (rc 1 (cs := [_, _]) hM rfl rfl Tryz.isAgg33 Tryz.sizeOf33 rfl), ?_⟩
        rw [hP]
        by_cases hB : 24 < t.size ∨ 12 < t.depth
        · have hm : (madeR t).2 = [] := by rw [madeR, if_pos hB]
          refine ⟨_, rfl, hM.low, ?_⟩
          rw [hm]
          simp only [if_pos hB]
          exact newL_nil
        · have hm : (madeR t).2 = post t 0 := by rw [madeR, if_neg hB]
          refine ⟨_, rfl, hM.low, ?_⟩
          rw [hm]
          simp only [if_neg hB]
          exact hM.newL 3 rfl (fun _ => rfl)
end Go.Proofs.YtbkameioedmlkaaGreatDoor
namespace Go.Proofs.YtbkameioedmlkaaGreatDoor
open Go.RowKit Go.Cf
set_option maxRecDepth 10000
theorem fa51_0 (a : Addr) (w : World) : (Instr.fieldAt 51 (.pointer (some a)) 0).run Tryz.prog w = .ok (.pointer (some (a.add 0))) w := by kernel_rfl
theorem fa51_1 (a : Addr) (w : World) : (Instr.fieldAt 51 (.pointer (some a)) 1).run Tryz.prog w = .ok (.pointer (some (a.add 1))) w := by kernel_rfl
theorem fa51_2 (a : Addr) (w : World) : (Instr.fieldAt 51 (.pointer (some a)) 2).run Tryz.prog w = .ok (.pointer (some (a.add 2))) w := by kernel_rfl
theorem bd135_0_1 (x1 : Int) (x2 : Bool) : Tryz.prog.built 135 [(0, .int .i64 x1), (1, .bool x2)] = some #[.int .i64 x1, .bool x2] := by kernel_rfl
theorem fa135_1 (a : Addr) (w : World) : (Instr.fieldAt 135 (.pointer (some a)) 1).run Tryz.prog w = .ok (.pointer (some (a.add 1))) w := by kernel_rfl
theorem fa135_0 (a : Addr) (w : World) : (Instr.fieldAt 135 (.pointer (some a)) 0).run Tryz.prog w = .ok (.pointer (some (a.add 0))) w := by kernel_rfl
set_option maxHeartbeats 1000000 in
theorem votesValidate_any (w : World) (A : Option Addr) (c : Nat) (l : List Vote) (B : Option Addr) (c2 : Nat) (tr : List Bool) (hv : Rdl w 0 3 voteCells A l) (ht : Rdl w 0 1 boolCells B tr) (hl : l.length ≤ maxLen) (htl : tr.length ≤ maxLen) (_hcc : tr.length ≤ c2) :
    Calls Tryz.prog 97 #[.slice A l.length c, .slice B tr.length c2] w fun e w' => e = .returned (fv (Votes.validate l tr)) ∧ Below w.heap.size w w' := by
  unfold maxLen at hl htl
  refine gcalls Tryz.func97 rfl Tryz.ntmps97 (Nat.le_of_ble_eq_true rfl) ?_
  refine gfrom [(0, .slice _ _ _), (1, .slice _ _ _)] ⟨rfl, rfl, trivial⟩ fun σ => ?_
  refine gseq fun N1 hN1 => ?_
  refine greg ?_
  refine gop_alloc (cs := #[.int .i64 0, .int .i64 0]) Tryz.zeroValue33 rfl rfl (fun b4 hb4 => ?_)
  refine gops_nil ?_
  refine hN1 _ _ ?_
  refine gT [box b4 _] rfl ?_
  refine gfrom [(0, .slice _ _ _), (1, .slice _ _ _), (4, .pointer _)] ⟨rfl, rfl, rfl, trivial⟩ fun σ => ?_
  refine gseq fun N2 hN2 => ?_
  refine gseq fun N3 hN3 => ?_
  refine greg ?_
  refine gop (y_move (v := .slice _ _ _) rfl) rfl rfl rfl ?_
  refine gop (y_len Tryz.underlying49 rfl) rfl rfl rfl ?_
  refine gop (y_gtr rfl rfl) rfl rfl rfl ?_
  refine gops_nil ?_
  refine hN3 _ _ ?_
  refine gfrom [(0, .slice _ _ _), (1, .slice _ _ _), (4, .pointer _), (9, .bool _)] ⟨rfl, rfl, rfl, rfl, trivial⟩ fun σ => ?_
  refine gcond (b := _) rfl (fun hc9 => ?_) (fun hc9 => ?_)
  · 
    replace hc9 := of_decide_eq_true hc9
    refine gseq fun N4 hN4 => ?_
    refine greg ?_
    refine gop (y_build (vs := [(0, _), (1, _)]) (cells := #[_, _]) rfl (bd33_0_1 _ _)) rfl rfl rfl ?_
    refine gop_store 0 (v := .agg #[_, _]) (cs' := #[_, _]) rfl rfl Tryz.sizeOf33 rfl rfl rfl rfl (Nat.le_of_ble_eq_true rfl) rfl rfl ?_
    refine gops_nil ?_
    refine hN4 _ _ ?_
    refine gT [box b4 _] rfl ?_
    refine gfrom [(4, .pointer _)] ⟨rfl, trivial⟩ fun σ => ?_
    refine gret fun w1 hM => ?_
    refine ⟨_, res1 rfl (rc 0 (cs := [_, _]) hM rfl rfl Tryz.isAgg33 Tryz.sizeOf33 rfl), ?_⟩
    exact ⟨by rw [Votes.validate, if_pos (by omega)], hM.low⟩
  · 
    replace hc9 := of_decide_eq_false hc9
    refine gskip ?_
    refine hN2 _ _ ?_
    refine gfrom [(0, .slice _ _ _), (1, .slice _ _ _), (4, .pointer _)] ⟨rfl, rfl, rfl, trivial⟩ fun σ => ?_
    refine gseq fun N5 hN5 => ?_
    refine gseq fun N6 hN6 => ?_
    refine greg ?_
    refine gop (y_move (v := .slice _ _ _) rfl) rfl rfl rfl ?_
    refine gop (y_len Tryz.underlying46 rfl) rfl rfl rfl ?_
    refine gop (y_eql rfl rfl) rfl rfl rfl ?_
    refine gop (y_move (v := .bool _) rfl) rfl rfl rfl ?_
    refine gop_if (want := false) rfl rfl rfl rfl rfl rfl (fun hg14 => ?_) (fun hg14 => ?_)
    · 
      have hg14d := of_decide_eq_false hg14
      refine gop (y_bare (y_move (v := .slice _ _ _) rfl)) rfl rfl rfl ?_
      refine gop_on rfl rfl rfl rfl hg14 ?_
      refine gop (y_bare (y_len Tryz.underlying46 rfl)) rfl rfl rfl ?_
      refine gop_on rfl rfl rfl rfl hg14 ?_
      refine gop (y_bare (y_gtr rfl rfl)) rfl rfl rfl ?_
      refine gop (y_pick_f (v := .bool _) rfl hg14 rfl) rfl rfl rfl ?_
      refine gops_nil ?_
      refine hN6 _ _ ?_
      refine gfrom [(0, .slice _ _ _), (1, .slice _ _ _), (4, .pointer _), (18, .bool _)] ⟨rfl, rfl, rfl, rfl, trivial⟩ fun σ => ?_
      refine gcond (b := _) rfl (fun hc18 => ?_) (fun hc18 => ?_)
      · 
        replace hc18 := of_decide_eq_true hc18
        refine gseq fun N7 hN7 => ?_
        refine greg ?_
        refine gop (y_build (vs := [(0, _), (1, _)]) (cells := #[_, _]) rfl (bd33_0_1 _ _)) rfl rfl rfl ?_
        refine gop_store 0 (v := .agg #[_, _]) (cs' := #[_, _]) rfl rfl Tryz.sizeOf33 rfl rfl rfl rfl (Nat.le_of_ble_eq_true rfl) rfl rfl ?_
        refine gops_nil ?_
        refine hN7 _ _ ?_
        refine gT [box b4 _] rfl ?_
        refine gfrom [(4, .pointer _)] ⟨rfl, trivial⟩ fun σ => ?_
        refine gret fun w1 hM => ?_
        refine ⟨_, res1 rfl (rc 0 (cs := [_, _]) hM rfl rfl Tryz.isAgg33 Tryz.sizeOf33 rfl), ?_⟩
        exact ⟨by rw [Votes.validate, if_neg (by omega), if_pos (by omega)], hM.low⟩
      · 
        replace hc18 := of_decide_eq_false hc18
        obtain ⟨adt, rfl, -, hct⟩ := ht.at_ (k := 0) (by omega)
        simp only [Nat.zero_mul, Nat.zero_add] at hct
        refine gskip ?_
        refine hN5 _ _ ?_
        refine gfrom [(0, .slice _ _ _), (1, .slice _ _ _), (4, .pointer _)] ⟨rfl, rfl, rfl, trivial⟩ fun σ => ?_
        refine gseq fun N8 hN8 => ?_
        refine gseq fun N9 hN9 => ?_
        refine greg ?_
        refine gop (y_move (v := .slice _ _ _) rfl) rfl rfl rfl ?_
        refine gop (y_indexAddr Tryz.underlying46 Tryz.sizeOf4 rfl rfl rfl (by omega) (by omega)) rfl rfl rfl ?_
        refine gop (y_load Tryz.isAgg4 rfl (cell_base (hct 0 _ rfl))) rfl rfl rfl ?_
        refine gops_nil ?_
        refine hN9 _ _ ?_
        refine gfrom [(0, .slice _ _ _), (1, .slice _ _ _), (4, .pointer _), (22, .bool _)] ⟨rfl, rfl, rfl, rfl, trivial⟩ fun σ => ?_
        refine gcond (b := _) rfl (fun hc22 => ?_) (fun hc22 => ?_)
        · 
          refine gseq fun N10 hN10 => ?_
          refine greg ?_
          refine gop (y_build (vs := [(0, _), (1, _)]) (cells := #[_, _]) rfl (bd33_0_1 _ _)) rfl rfl rfl ?_
          refine gop_store 0 (v := .agg #[_, _]) (cs' := #[_, _]) rfl rfl Tryz.sizeOf33 rfl rfl rfl rfl (Nat.le_of_ble_eq_true rfl) rfl rfl ?_
          refine gops_nil ?_
          refine hN10 _ _ ?_
          refine gT [box b4 _] rfl ?_
          refine gfrom [(4, .pointer _)] ⟨rfl, trivial⟩ fun σ => ?_
          refine gret fun w1 hM => ?_
          refine ⟨_, res1 rfl (rc 0 (cs := [_, _]) hM rfl rfl Tryz.isAgg33 Tryz.sizeOf33 rfl), ?_⟩
          exact ⟨by rw [Votes.validate, if_neg (by omega), if_neg (by omega), if_pos (by rw [← hc22]; simp [List.getD_eq_getElem?_getD, List.getElem?_eq_getElem (show 0 < tr.length by omega)])], hM.low⟩
        · 
          have hfst : ¬ tr.getD 0 false = true := by rw [show tr.getD 0 false = tr[0] from by simp [List.getD_eq_getElem?_getD, List.getElem?_eq_getElem (show 0 < tr.length by omega)], hc22]; simp
          refine gskip ?_
          refine hN8 _ _ ?_
          refine gfrom [(0, .slice _ _ _), (1, .slice _ _ _), (4, .pointer _)] ⟨rfl, rfl, rfl, trivial⟩ fun σ => ?_
          refine gseq fun N11 hN11 => ?_
          refine gseq fun N12 hN12 => ?_
          refine greg ?_
          refine gop (y_move (v := .slice _ _ _) rfl) rfl rfl rfl ?_
          refine gop (y_len Tryz.underlying49 rfl) rfl rfl rfl ?_
          refine gop (y_move (v := .int _ _) rfl) rfl rfl rfl ?_
          refine gops_nil ?_
          refine hN12 _ _ ?_
          refine gfrom [(0, .slice _ _ _), (1, .slice _ _ _), (4, .pointer _), (24, .slice _ _ _), (25, .int _ _), (26, .int _ _)] ⟨rfl, rfl, rfl, rfl, rfl, rfl, trivial⟩ fun σ => ?_
          refine gblock ?_
          refine gfrom2 [(26, .int _ _)] [(0, .slice _ _ _), (1, .slice _ _ _), (4, .pointer _), (24, .slice _ _ _), (25, .int _ _)] ⟨rfl, trivial⟩ ⟨rfl, rfl, rfl, rfl, rfl, trivial⟩ fun σ => ?_
          refine gloop2 (G := Nat) (fun k => k ≤ l.length ∧ Votes.valGo tr.length 0 0 l = Votes.valGo tr.length k (Votes.prevRev l k) (l.drop k)) (fun k => l.length - k) (fun k => [(26, .int .i64 (k : Int))]) (fun k => []) (0) ?h0 ⟨rfl, trivial⟩ ⟨rfl, rfl, rfl, rfl, rfl, trivial⟩ rfl ?round
          case h0 => exact ⟨Nat.zero_le _, rfl⟩
          case round =>
            intro k hφ σ
            obtain ⟨hk, hgo⟩ := hφ
            refine gseq fun N13 hN13 => ?_
            refine greg ?_
            refine gop (y_lss rfl rfl) rfl rfl rfl ?_
            refine gops_nil ?_
            refine hN13 _ _ ?_
            refine gfrom [(0, .slice _ _ _), (1, .slice _ _ _), (4, .pointer _), (24, .slice _ _ _), (25, .int _ _), (26, .int _ _), (27, .bool _)] ⟨rfl, rfl, rfl, rfl, rfl, rfl, rfl, trivial⟩ fun σ => ?_
            refine gseq fun N14 hN14 => ?_
            refine gcond (b := _) rfl (fun hc27 => ?_) (fun hc27 => ?_)
            · 
              replace hc27 := of_decide_eq_true hc27
              have hk1 : k < l.length := by omega
              obtain ⟨ad, rfl, -, hcv⟩ := hv.at_ hk1
              have hst := Votes.valGo_step tr.length l k (Votes.prevRev l k) hk1
              refine gskip ?_
              refine hN14 _ _ ?_
              refine gfrom [(0, .slice _ _ _), (1, .slice _ _ _), (4, .pointer _), (24, .slice _ _ _), (25, .int _ _), (26, .int _ _)] ⟨rfl, rfl, rfl, rfl, rfl, rfl, trivial⟩ fun σ => ?_
              refine gseq fun N15 hN15 => ?_
              refine gblock ?_
              refine gseq fun N16 hN16 => ?_
              refine greg ?_
              refine gop (y_move (v := .int _ _) rfl) rfl rfl rfl ?_
              refine gop (y_indexAddr Tryz.underlying49 Tryz.sizeOf51 rfl rfl rfl (by omega) (by omega)) rfl rfl rfl ?_
              refine gop (y_loads (cs := [_, _, _]) Tryz.isAgg51 Tryz.sizeOf51 rfl rfl (cells_base hcv)) rfl rfl rfl ?_
              refine gop_alloc (cs := #[.int .i64 0, .int .i64 0, .int .i64 0]) Tryz.zeroValue51 rfl rfl (fun b6 hb6 => ?_)
              refine gop (y_assign (v := .int _ _) rfl) rfl rfl rfl ?_
              refine gop_store 1 (v := .agg #[_, _, _]) (cs' := #[_, _, _]) rfl rfl Tryz.sizeOf51 rfl rfl rfl rfl (Nat.le_of_ble_eq_true rfl) rfl rfl ?_
              refine gops_nil ?_
              refine hN16 _ _ ?_
              refine gT [box b4 _, box b6 _] rfl ?_
              refine gfrom [(0, .slice _ _ _), (1, .slice _ _ _), (4, .pointer _), (5, .int _ _), (6, .pointer _), (24, .slice _ _ _), (25, .int _ _), (26, .int _ _)] ⟨rfl, rfl, rfl, rfl, rfl, rfl, rfl, rfl, trivial⟩ fun σ => ?_
              refine gseq fun N17 hN17 => ?_
              refine gseq fun N18 hN18 => ?_
              refine greg ?_
              refine gop (y_fieldAddr_box fa51_0 rfl) rfl rfl rfl ?_
              refine gop (y_load Tryz.isAgg3 rfl (cell_box 1 rfl rfl)) rfl rfl rfl ?_
              refine gop (y_lss rfl rfl) rfl rfl rfl ?_
              refine gop (y_move (v := .bool _) rfl) rfl rfl rfl ?_
              refine gop_if (want := false) rfl rfl rfl rfl rfl rfl (fun hg34 => ?_) (fun hg34 => ?_)
              · 
                have hg34d := of_decide_eq_false hg34
                refine gop (y_bare (y_fieldAddr_box fa51_0 rfl)) rfl rfl rfl ?_
                refine gop_on rfl rfl rfl rfl hg34 ?_
                refine gop (y_bare (y_load Tryz.isAgg3 rfl (cell_box 1 rfl rfl))) rfl rfl rfl ?_
                refine gop_on rfl rfl rfl rfl hg34 ?_
                refine gop (y_bare (y_gtr rfl rfl)) rfl rfl rfl ?_
                refine gop (y_pick_f (v := .bool _) rfl hg34 rfl) rfl rfl rfl ?_
                refine gop (y_move (v := .bool _) rfl) rfl rfl rfl ?_
                refine gop_if (want := false) rfl rfl rfl rfl rfl rfl (fun hg39 => ?_) (fun hg39 => ?_)
                · 
                  have hg39d := of_decide_eq_false hg39
                  refine gop (y_bare (y_fieldAddr_box fa51_1 rfl)) rfl rfl rfl ?_
                  refine gop_on rfl rfl rfl rfl hg39 ?_
                  refine gop (y_bare (y_load Tryz.isAgg3 rfl (cell_box 1 rfl rfl))) rfl rfl rfl ?_
                  refine gop_on rfl rfl rfl rfl hg39 ?_
                  refine gop (y_bare (y_lss rfl rfl)) rfl rfl rfl ?_
                  refine gop (y_pick_f (v := .bool _) rfl hg39 rfl) rfl rfl rfl ?_
                  refine gop (y_move (v := .bool _) rfl) rfl rfl rfl ?_
                  refine gop_if (want := false) rfl rfl rfl rfl rfl rfl (fun hg44 => ?_) (fun hg44 => ?_)
                  · 
                    have hg44d := of_decide_eq_false hg44
                    refine gop (y_bare (y_fieldAddr_box fa51_1 rfl)) rfl rfl rfl ?_
                    refine gop_on rfl rfl rfl rfl hg44 ?_
                    refine gop (y_bare (y_load Tryz.isAgg3 rfl (cell_box 1 rfl rfl))) rfl rfl rfl ?_
                    refine gop_on rfl rfl rfl rfl hg44 ?_
                    refine gop (y_bare (y_move (v := .slice _ _ _) rfl)) rfl rfl rfl ?_
                    refine gop_on rfl rfl rfl rfl hg44 ?_
                    refine gop (y_bare (y_len Tryz.underlying46 rfl)) rfl rfl rfl ?_
                    refine gop_on rfl rfl rfl rfl hg44 ?_
                    refine gop (y_bare (y_geq rfl rfl)) rfl rfl rfl ?_
                    refine gop (y_pick_f (v := .bool _) rfl hg44 rfl) rfl rfl rfl ?_
                    refine gop (y_move (v := .bool _) rfl) rfl rfl rfl ?_
                    refine gop_if (want := false) rfl rfl rfl rfl rfl rfl (fun hg51 => ?_) (fun hg51 => ?_)
                    · 
                      have hg51d := of_decide_eq_false hg51
                      refine gop (y_bare (y_fieldAddr_box fa51_2 rfl)) rfl rfl rfl ?_
                      refine gop_on rfl rfl rfl rfl hg51 ?_
                      refine gop (y_bare (y_load Tryz.isAgg3 rfl (cell_box 1 rfl rfl))) rfl rfl rfl ?_
                      refine gop_on rfl rfl rfl rfl hg51 ?_
                      refine gop (y_bare (y_lss rfl rfl)) rfl rfl rfl ?_
                      refine gop (y_pick_f (v := .bool _) rfl hg51 rfl) rfl rfl rfl ?_
                      refine gop (y_move (v := .bool _) rfl) rfl rfl rfl ?_
                      refine gop_if (want := false) rfl rfl rfl rfl rfl rfl (fun hg56 => ?_) (fun hg56 => ?_)
                      · 
                        have hg56d := of_decide_eq_false hg56
                        refine gop (y_bare (y_fieldAddr_box fa51_2 rfl)) rfl rfl rfl ?_
                        refine gop_on rfl rfl rfl rfl hg56 ?_
                        refine gop (y_bare (y_load Tryz.isAgg3 rfl (cell_box 1 rfl rfl))) rfl rfl rfl ?_
                        refine gop_on rfl rfl rfl rfl hg56 ?_
                        refine gop (y_bare (y_gtr rfl rfl)) rfl rfl rfl ?_
                        refine gop (y_pick_f (v := .bool _) rfl hg56 rfl) rfl rfl rfl ?_
                        refine gops_nil ?_
                        refine hN18 _ _ ?_
                        refine gfrom [(0, .slice _ _ _), (1, .slice _ _ _), (4, .pointer _), (5, .int _ _), (6, .pointer _), (24, .slice _ _ _), (25, .int _ _), (26, .int _ _), (60, .bool _)] ⟨rfl, rfl, rfl, rfl, rfl, rfl, rfl, rfl, rfl, trivial⟩ fun σ => ?_
                        refine gcond (b := _) rfl (fun hc60 => ?_) (fun hc60 => ?_)
                        · 
                          replace hc60 := of_decide_eq_true hc60
                          refine gseq fun N19 hN19 => ?_
                          refine greg ?_
                          refine gop (y_move (v := .int _ _) rfl) rfl rfl rfl ?_
                          refine gop (y_build (vs := [(0, _), (1, .int _ _)]) (cells := #[_, _]) rfl (bd33_0_1 _ _)) rfl rfl rfl ?_
                          refine gop_store 0 (v := .agg #[_, _]) (cs' := #[_, _]) rfl rfl Tryz.sizeOf33 rfl rfl rfl rfl (Nat.le_of_ble_eq_true rfl) rfl rfl ?_
                          refine gops_nil ?_
                          refine hN19 _ _ ?_
                          refine gT [box b4 _, box b6 _] rfl ?_
                          refine gfrom [(4, .pointer _)] ⟨rfl, trivial⟩ fun σ => ?_
                          refine gret fun w1 hM => ?_
                          refine ⟨_, res1 rfl (rc 0 (cs := [_, _]) hM rfl rfl Tryz.isAgg33 Tryz.sizeOf33 rfl), ?_⟩
                          exact ⟨by rw [Votes.validate, if_neg (by omega), if_neg (by omega), if_neg hfst, hgo, hst, if_pos (by unfold Votes.Bad; omega)], hM.low⟩
                        · 
                          replace hc60 := of_decide_eq_false hc60
                          have hbad : ¬ Votes.Bad tr.length l[k] := by unfold Votes.Bad; omega
                          refine gskip ?_
                          refine hN17 _ _ ?_
                          refine gfrom [(0, .slice _ _ _), (1, .slice _ _ _), (4, .pointer _), (5, .int _ _), (6, .pointer _), (24, .slice _ _ _), (25, .int _ _), (26, .int _ _)] ⟨rfl, rfl, rfl, rfl, rfl, rfl, rfl, rfl, trivial⟩ fun σ => ?_
                          refine gseq fun N20 hN20 => ?_
                          refine greg_q (by kernel_rfl) (by kernel_rfl) ?_
                          refine gq (y_move (v := .int _ _) rfl) rfl rfl rfl ?_
                          refine gq (y_gtr rfl rfl) rfl rfl rfl ?_
                          refine gq (y_move (v := .bool _) rfl) rfl rfl rfl ?_
                          refine gq_if (want := true) rfl rfl rfl rfl rfl rfl (fun hg65 => ?_) (fun hg65 => ?_)
                          · 
                            have hg65d := of_decide_eq_true hg65
                            obtain ⟨ad2, e2, -, hcp⟩ := hv.at_ (k := k - 1) (by omega)
                            injection e2 with e2
                            subst e2
                            have hpr := Votes.prevRev_at l k (by omega) (by omega)
                            refine gq (y_bare (y_fieldAddr_box fa51_1 rfl)) rfl rfl rfl ?_
                            refine gq_on rfl rfl rfl rfl hg65 ?_
                            refine gq (y_bare (y_load Tryz.isAgg3 rfl (cell_box 1 rfl rfl))) rfl rfl rfl ?_
                            refine gq_on rfl rfl rfl rfl hg65 ?_
                            refine gq (y_bare (y_move (v := .slice _ _ _) rfl)) rfl rfl rfl ?_
                            refine gq_on rfl rfl rfl rfl hg65 ?_
                            refine gq (y_bare (y_move (v := .int _ _) rfl)) rfl rfl rfl ?_
                            refine gq_on rfl rfl rfl rfl hg65 ?_
                            refine gq (y_bare (y_sub rfl rfl ⟨by omega, by omega⟩)) rfl rfl rfl ?_
                            refine gq_on rfl rfl rfl rfl hg65 ?_
                            refine gq (y_bare (y_indexAddr (m := k - 1) Tryz.underlying49 Tryz.sizeOf51 rfl rfl (by omega) (by omega) (by omega))) rfl rfl rfl ?_
                            refine gq_on rfl rfl rfl rfl hg65 ?_
                            refine gq (y_bare (y_fieldAddr_add fa51_1 rfl)) rfl rfl rfl ?_
                            refine gq_on rfl rfl rfl rfl hg65 ?_
                            refine gq (y_bare (y_load Tryz.isAgg3 rfl (cell_base (hcp 1 _ rfl)))) rfl rfl rfl ?_
                            refine gq_on rfl rfl rfl rfl hg65 ?_
                            refine gq (y_bare (y_lss rfl rfl)) rfl rfl rfl ?_
                            refine gq (y_pick_t (v := .bool _) rfl hg65 rfl) rfl rfl rfl ?_
                            refine gqs_nil ?_
                            refine hN20 _ _ ?_
                            refine gfrom [(0, .slice _ _ _), (1, .slice _ _ _), (4, .pointer _), (5, .int _ _), (24, .slice _ _ _), (25, .int _ _), (26, .int _ _), (75, .bool _)] ⟨rfl, rfl, rfl, rfl, rfl, rfl, rfl, rfl, trivial⟩ fun σ => ?_
                            refine gcond (b := _) rfl (fun hc75 => ?_) (fun hc75 => ?_)
                            · 
                              replace hc75 := of_decide_eq_true hc75
                              refine gseq fun N21 hN21 => ?_
                              refine greg ?_
                              refine gop (y_move (v := .int _ _) rfl) rfl rfl rfl ?_
                              refine gop (y_build (vs := [(0, _), (1, .int _ _)]) (cells := #[_, _]) rfl (bd33_0_1 _ _)) rfl rfl rfl ?_
                              refine gop_store 0 (v := .agg #[_, _]) (cs' := #[_, _]) rfl rfl Tryz.sizeOf33 rfl rfl rfl rfl (Nat.le_of_ble_eq_true rfl) rfl rfl ?_
                              refine gops_nil ?_
                              refine hN21 _ _ ?_
                              refine gT [box b4 _, box b6 _] rfl ?_
                              refine gfrom [(4, .pointer _)] ⟨rfl, trivial⟩ fun σ => ?_
                              refine gret fun w1 hM => ?_
                              refine ⟨_, res1 rfl (rc 0 (cs := [_, _]) hM rfl rfl Tryz.isAgg33 Tryz.sizeOf33 rfl), ?_⟩
                              exact ⟨by rw [Votes.validate, if_neg (by omega), if_neg (by omega), if_neg hfst, hgo, hst, if_neg hbad, if_pos (by omega)], hM.low⟩
                            · 
                              replace hc75 := of_decide_eq_false hc75
                              refine gskip ?_
                              refine hN15 _ _ ?_
                              refine gfrom [(0, .slice _ _ _), (1, .slice _ _ _), (4, .pointer _), (24, .slice _ _ _), (25, .int _ _), (26, .int _ _)] ⟨rfl, rfl, rfl, rfl, rfl, rfl, trivial⟩ fun σ => ?_
                              refine greg ?_
                              refine gop (y_add rfl rfl ⟨by omega, by omega⟩) rfl rfl rfl ?_
                              refine gop (y_move (v := .int _ _) rfl) rfl rfl rfl ?_
                              refine gops_nil ?_
                              refine gnext2 (k + 1) (by omega) (⟨by omega, by rw [hgo, hst, if_neg hbad, if_neg (by omega), Votes.prevRev_succ l k hk1]⟩) ⟨rfl, trivial⟩ ⟨rfl, rfl, rfl, rfl, rfl, trivial⟩ ⟨_, rfl⟩
                          · 
                            have hg65d := of_decide_eq_false hg65
                            have hpr : Votes.prevRev l k = 0 := by unfold Votes.prevRev; rw [if_pos (by omega)]
                            refine gq_off rfl rfl rfl rfl hg65 rfl rfl ?_
                            refine gq_off rfl rfl rfl rfl hg65 rfl rfl ?_
                            refine gq_off rfl rfl rfl rfl hg65 rfl rfl ?_
                            refine gq_off rfl rfl rfl rfl hg65 rfl rfl ?_
                            refine gq_off rfl rfl rfl rfl hg65 rfl rfl ?_
                            refine gq_off rfl rfl rfl rfl hg65 rfl rfl ?_
                            refine gq_off rfl rfl rfl rfl hg65 rfl rfl ?_
                            refine gq_off rfl rfl rfl rfl hg65 rfl rfl ?_
                            refine gq (y_pick_f (v := .bool _) rfl hg65 rfl) rfl rfl rfl ?_
                            refine gqs_nil ?_
                            refine hN20 _ _ ?_
                            refine gfrom [(0, .slice _ _ _), (1, .slice _ _ _), (4, .pointer _), (5, .int _ _), (24, .slice _ _ _), (25, .int _ _), (26, .int _ _), (75, .bool _)] ⟨rfl, rfl, rfl, rfl, rfl, rfl, rfl, rfl, trivial⟩ fun σ => ?_
                            refine gcond (b := _) rfl (fun hc75 => ?_) (fun hc75 => ?_)
                            · 
                              cases hc75
                            · 
                              refine gskip ?_
                              refine hN15 _ _ ?_
                              refine gfrom [(0, .slice _ _ _), (1, .slice _ _ _), (4, .pointer _), (24, .slice _ _ _), (25, .int _ _), (26, .int _ _)] ⟨rfl, rfl, rfl, rfl, rfl, rfl, trivial⟩ fun σ => ?_
                              refine greg ?_
                              refine gop (y_add rfl rfl ⟨by omega, by omega⟩) rfl rfl rfl ?_
                              refine gop (y_move (v := .int _ _) rfl) rfl rfl rfl ?_
                              refine gops_nil ?_
                              refine gnext2 (k + 1) (by omega) (⟨by omega, by rw [hgo, hst, if_neg hbad, if_neg (by omega), Votes.prevRev_succ l k hk1]⟩) ⟨rfl, trivial⟩ ⟨rfl, rfl, rfl, rfl, rfl, trivial⟩ ⟨_, rfl⟩
                      · 
                        have hg56d := of_decide_eq_true hg56
                        refine gop_off rfl rfl rfl rfl hg56 rfl rfl ?_
                        refine gop_off rfl rfl rfl rfl hg56 rfl rfl ?_
                        refine gop (y_pick_t (v := .bool _) rfl hg56 rfl) rfl rfl rfl ?_
                        refine gops_nil ?_
                        refine hN18 _ _ ?_
                        refine gfrom [(0, .slice _ _ _), (1, .slice _ _ _), (4, .pointer _), (5, .int _ _), (6, .pointer _), (24, .slice _ _ _), (25, .int _ _), (26, .int _ _), (60, .bool _)] ⟨rfl, rfl, rfl, rfl, rfl, rfl, rfl, rfl, rfl, trivial⟩ fun σ => ?_
                        refine gcond (b := _) rfl (fun hc60 => ?_) (fun hc60 => ?_)
                        · 
                          refine gseq fun N22 hN22 => ?_
                          refine greg ?_
                          refine gop (y_move (v := .int _ _) rfl) rfl rfl rfl ?_
                          refine gop (y_build (vs := [(0, _), (1, .int _ _)]) (cells := #[_, _]) rfl (bd33_0_1 _ _)) rfl rfl rfl ?_
                          refine gop_store 0 (v := .agg #[_, _]) (cs' := #[_, _]) rfl rfl Tryz.sizeOf33 rfl rfl rfl rfl (Nat.le_of_ble_eq_true rfl) rfl rfl ?_
                          refine gops_nil ?_
                          refine hN22 _ _ ?_
                          refine gT [box b4 _, box b6 _] rfl ?_
                          refine gfrom [(4, .pointer _)] ⟨rfl, trivial⟩ fun σ => ?_
                          refine gret fun w1 hM => ?_
                          refine ⟨_, res1 rfl (rc 0 (cs := [_, _]) hM rfl rfl Tryz.isAgg33 Tryz.sizeOf33 rfl), ?_⟩
                          exact ⟨by rw [Votes.validate, if_neg (by omega), if_neg (by omega), if_neg hfst, hgo, hst, if_pos (by unfold Votes.Bad; omega)], hM.low⟩
                        · 
                          cases hc60
                    · 
                      have hg51d := of_decide_eq_true hg51
                      refine gop_off rfl rfl rfl rfl hg51 rfl rfl ?_
                      refine gop_off rfl rfl rfl rfl hg51 rfl rfl ?_
                      refine gop (y_pick_t (v := .bool _) rfl hg51 rfl) rfl rfl rfl ?_
                      refine gop (y_move (v := .bool _) rfl) rfl rfl rfl ?_
                      refine gop_off rfl rfl rfl rfl rfl rfl rfl ?_
                      refine gop_off rfl rfl rfl rfl rfl rfl rfl ?_
                      refine gop_off rfl rfl rfl rfl rfl rfl rfl ?_
                      refine gop (y_pick_t (v := .bool _) rfl rfl rfl) rfl rfl rfl ?_
                      refine gops_nil ?_
                      refine hN18 _ _ ?_
                      refine gfrom [(0, .slice _ _ _), (1, .slice _ _ _), (4, .pointer _), (5, .int _ _), (6, .pointer _), (24, .slice _ _ _), (25, .int _ _), (26, .int _ _), (60, .bool _)] ⟨rfl, rfl, rfl, rfl, rfl, rfl, rfl, rfl, rfl, trivial⟩ fun σ => ?_
                      refine gcond (b := _) rfl (fun hc60 => ?_) (fun hc60 => ?_)
                      · 
                        refine gseq fun N23 hN23 => ?_
                        refine greg ?_
                        refine gop (y_move (v := .int _ _) rfl) rfl rfl rfl ?_
                        refine gop (y_build (vs := [(0, _), (1, .int _ _)]) (cells := #[_, _]) rfl (bd33_0_1 _ _)) rfl rfl rfl ?_
                        refine gop_store 0 (v := .agg #[_, _]) (cs' := #[_, _]) rfl rfl Tryz.sizeOf33 rfl rfl rfl rfl (Nat.le_of_ble_eq_true rfl) rfl rfl ?_
                        refine gops_nil ?_
                        refine hN23 _ _ ?_
                        refine gT [box b4 _, box b6 _] rfl ?_
                        refine gfrom [(4, .pointer _)] ⟨rfl, trivial⟩ fun σ => ?_
                        refine gret fun w1 hM => ?_
                        refine ⟨_, res1 rfl (rc 0 (cs := [_, _]) hM rfl rfl Tryz.isAgg33 Tryz.sizeOf33 rfl), ?_⟩
                        exact ⟨by rw [Votes.validate, if_neg (by omega), if_neg (by omega), if_neg hfst, hgo, hst, if_pos (by unfold Votes.Bad; omega)], hM.low⟩
                      · 
                        cases hc60
                  · 
                    have hg44d := of_decide_eq_true hg44
                    refine gop_off rfl rfl rfl rfl hg44 rfl rfl ?_
                    refine gop_off rfl rfl rfl rfl hg44 rfl rfl ?_
                    refine gop_off rfl rfl rfl rfl hg44 rfl rfl ?_
                    refine gop_off rfl rfl rfl rfl hg44 rfl rfl ?_
                    refine gop (y_pick_t (v := .bool _) rfl hg44 rfl) rfl rfl rfl ?_
                    refine gop (y_move (v := .bool _) rfl) rfl rfl rfl ?_
                    refine gop_off rfl rfl rfl rfl rfl rfl rfl ?_
                    refine gop_off rfl rfl rfl rfl rfl rfl rfl ?_
                    refine gop_off rfl rfl rfl rfl rfl rfl rfl ?_
                    refine gop (y_pick_t (v := .bool _) rfl rfl rfl) rfl rfl rfl ?_
                    refine gop (y_move (v := .bool _) rfl) rfl rfl rfl ?_
                    refine gop_off rfl rfl rfl rfl rfl rfl rfl ?_
                    refine gop_off rfl rfl rfl rfl rfl rfl rfl ?_
                    refine gop_off rfl rfl rfl rfl rfl rfl rfl ?_
                    refine gop (y_pick_t (v := .bool _) rfl rfl rfl) rfl rfl rfl ?_
                    refine gops_nil ?_
                    refine hN18 _ _ ?_
                    refine gfrom [(0, .slice _ _ _), (1, .slice _ _ _), (4, .pointer _), (5, .int _ _), (6, .pointer _), (24, .slice _ _ _), (25, .int _ _), (26, .int _ _), (60, .bool _)] ⟨rfl, rfl, rfl, rfl, rfl, rfl, rfl, rfl, rfl, trivial⟩ fun σ => ?_
                    refine gcond (b := _) rfl (fun hc60 => ?_) (fun hc60 => ?_)
                    · 
                      refine gseq fun N24 hN24 => ?_
                      refine greg ?_
                      refine gop (y_move (v := .int _ _) rfl) rfl rfl rfl ?_
                      refine gop (y_build (vs := [(0, _), (1, .int _ _)]) (cells := #[_, _]) rfl (bd33_0_1 _ _)) rfl rfl rfl ?_
                      refine gop_store 0 (v := .agg #[_, _]) (cs' := #[_, _]) rfl rfl Tryz.sizeOf33 rfl rfl rfl rfl (Nat.le_of_ble_eq_true rfl) rfl rfl ?_
                      refine gops_nil ?_
                      refine hN24 _ _ ?_
                      refine gT [box b4 _, box b6 _] rfl ?_
                      refine gfrom [(4, .pointer _)] ⟨rfl, trivial⟩ fun σ => ?_
                      refine gret fun w1 hM => ?_
                      refine ⟨_, res1 rfl (rc 0 (cs := [_, _]) hM rfl rfl Tryz.isAgg33 Tryz.sizeOf33 rfl), ?_⟩
                      exact ⟨by rw [Votes.validate, if_neg (by omega), if_neg (by omega), if_neg hfst, hgo, hst, if_pos (by unfold Votes.Bad; omega)], hM.low⟩
                    · 
                      cases hc60
                · 
                  have hg39d := of_decide_eq_true hg39
                  refine gop_off rfl rfl rfl rfl hg39 rfl rfl ?_
                  refine gop_off rfl rfl rfl rfl hg39 rfl rfl ?_
                  refine gop (y_pick_t (v := .bool _) rfl hg39 rfl) rfl rfl rfl ?_
                  refine gop (y_move (v := .bool _) rfl) rfl rfl rfl ?_
                  refine gop_off rfl rfl rfl rfl rfl rfl rfl ?_
                  refine gop_off rfl rfl rfl rfl rfl rfl rfl ?_
                  refine gop_off rfl rfl rfl rfl rfl rfl rfl ?_
                  refine gop_off rfl rfl rfl rfl rfl rfl rfl ?_
                  refine gop_off rfl rfl rfl rfl rfl rfl rfl ?_
                  refine gop (y_pick_t (v := .bool _) rfl rfl rfl) rfl rfl rfl ?_
                  refine gop (y_move (v := .bool _) rfl) rfl rfl rfl ?_
                  refine gop_off rfl rfl rfl rfl rfl rfl rfl ?_
                  refine gop_off rfl rfl rfl rfl rfl rfl rfl ?_
                  refine gop_off rfl rfl rfl rfl rfl rfl rfl ?_
                  refine gop (y_pick_t (v := .bool _) rfl rfl rfl) rfl rfl rfl ?_
                  refine gop (y_move (v := .bool _) rfl) rfl rfl rfl ?_
                  refine gop_off rfl rfl rfl rfl rfl rfl rfl ?_
                  refine gop_off rfl rfl rfl rfl rfl rfl rfl ?_
                  refine gop_off rfl rfl rfl rfl rfl rfl rfl ?_
                  refine gop (y_pick_t (v := .bool _) rfl rfl rfl) rfl rfl rfl ?_
                  refine gops_nil ?_
                  refine hN18 _ _ ?_
                  refine gfrom [(0, .slice _ _ _), (1, .slice _ _ _), (4, .pointer _), (5, .int _ _), (6, .pointer _), (24, .slice _ _ _), (25, .int _ _), (26, .int _ _), (60, .bool _)] ⟨rfl, rfl, rfl, rfl, rfl, rfl, rfl, rfl, rfl, trivial⟩ fun σ => ?_
                  refine gcond (b := _) rfl (fun hc60 => ?_) (fun hc60 => ?_)
                  · 
                    refine gseq fun N25 hN25 => ?_
                    refine greg ?_
                    refine gop (y_move (v := .int _ _) rfl) rfl rfl rfl ?_
                    refine gop (y_build (vs := [(0, _), (1, .int _ _)]) (cells := #[_, _]) rfl (bd33_0_1 _ _)) rfl rfl rfl ?_
                    refine gop_store 0 (v := .agg #[_, _]) (cs' := #[_, _]) rfl rfl Tryz.sizeOf33 rfl rfl rfl rfl (Nat.le_of_ble_eq_true rfl) rfl rfl ?_
                    refine gops_nil ?_
                    refine hN25 _ _ ?_
                    refine gT [box b4 _, box b6 _] rfl ?_
                    refine gfrom [(4, .pointer _)] ⟨rfl, trivial⟩ fun σ => ?_
                    refine gret fun w1 hM => ?_
                    refine ⟨_, res1 rfl (rc 0 (cs := [_, _]) hM rfl rfl Tryz.isAgg33 Tryz.sizeOf33 rfl), ?_⟩
                    exact ⟨by rw [Votes.validate, if_neg (by omega), if_neg (by omega), if_neg hfst, hgo, hst, if_pos (by unfold Votes.Bad; omega)], hM.low⟩
                  · 
                    cases hc60
              · 
                have hg34d := of_decide_eq_true hg34
                refine gop_off rfl rfl rfl rfl hg34 rfl rfl ?_
                refine gop_off rfl rfl rfl rfl hg34 rfl rfl ?_
                refine gop (y_pick_t (v := .bool _) rfl hg34 rfl) rfl rfl rfl ?_
                refine gop (y_move (v := .bool _) rfl) rfl rfl rfl ?_
                refine gop_off rfl rfl rfl rfl rfl rfl rfl ?_
                refine gop_off rfl rfl rfl rfl rfl rfl rfl ?_
                refine gop_off rfl rfl rfl rfl rfl rfl rfl ?_
                refine gop (y_pick_t (v := .bool _) rfl rfl rfl) rfl rfl rfl ?_
                refine gop (y_move (v := .bool _) rfl) rfl rfl rfl ?_
                refine gop_off rfl rfl rfl rfl rfl rfl rfl ?_
                refine gop_off rfl rfl rfl rfl rfl rfl rfl ?_
                refine gop_off rfl rfl rfl rfl rfl rfl rfl ?_
                refine gop_off rfl rfl rfl rfl rfl rfl rfl ?_
                refine gop_off rfl rfl rfl rfl rfl rfl rfl ?_
                refine gop (y_pick_t (v := .bool _) rfl rfl rfl) rfl rfl rfl ?_
                refine gop (y_move (v := .bool _) rfl) rfl rfl rfl ?_
                refine gop_off rfl rfl rfl rfl rfl rfl rfl ?_
                refine gop_off rfl rfl rfl rfl rfl rfl rfl ?_
                refine gop_off rfl rfl rfl rfl rfl rfl rfl ?_
                refine gop (y_pick_t (v := .bool _) rfl rfl rfl) rfl rfl rfl ?_
                refine gop (y_move (v := .bool _) rfl) rfl rfl rfl ?_
                refine gop_off rfl rfl rfl rfl rfl rfl rfl ?_
                refine gop_off rfl rfl rfl rfl rfl rfl rfl ?_
                refine gop_off rfl rfl rfl rfl rfl rfl rfl ?_
                refine gop (y_pick_t (v := .bool _) rfl rfl rfl) rfl rfl rfl ?_
                refine gops_nil ?_
                refine hN18 _ _ ?_
                refine gfrom [(0, .slice _ _ _), (1, .slice _ _ _), (4, .pointer _), (5, .int _ _), (6, .pointer _), (24, .slice _ _ _), (25, .int _ _), (26, .int _ _), (60, .bool _)] ⟨rfl, rfl, rfl, rfl, rfl, rfl, rfl, rfl, rfl, trivial⟩ fun σ => ?_
                refine gcond (b := _) rfl (fun hc60 => ?_) (fun hc60 => ?_)
                · 
                  refine gseq fun N26 hN26 => ?_
                  refine greg ?_
                  refine gop (y_move (v := .int _ _) rfl) rfl rfl rfl ?_
                  refine gop (y_build (vs := [(0, _), (1, .int _ _)]) (cells := #[_, _]) rfl (bd33_0_1 _ _)) rfl rfl rfl ?_
                  refine gop_store 0 (v := .agg #[_, _]) (cs' := #[_, _]) rfl rfl Tryz.sizeOf33 rfl rfl rfl rfl (Nat.le_of_ble_eq_true rfl) rfl rfl ?_
                  refine gops_nil ?_
                  refine hN26 _ _ ?_
                  refine gT [box b4 _, box b6 _] rfl ?_
                  refine gfrom [(4, .pointer _)] ⟨rfl, trivial⟩ fun σ => ?_
                  refine gret fun w1 hM => ?_
                  refine ⟨_, res1 rfl (rc 0 (cs := [_, _]) hM rfl rfl Tryz.isAgg33 Tryz.sizeOf33 rfl), ?_⟩
                  exact ⟨by rw [Votes.validate, if_neg (by omega), if_neg (by omega), if_neg hfst, hgo, hst, if_pos (by unfold Votes.Bad; omega)], hM.low⟩
                · 
                  cases hc60
            · 
              replace hc27 := of_decide_eq_false hc27
              refine gexit ?_
              refine hN11 _ _ ?_
              refine gfrom [(4, .pointer _)] ⟨rfl, trivial⟩ fun σ => ?_
              refine gseq fun N27 hN27 => ?_
              refine greg ?_
              refine gop (y_build (vs := []) (cells := #[.int .i64 0, .int .i64 0]) rfl bd33_) rfl rfl rfl ?_
              refine gop_store 0 (v := .agg #[_, _]) (cs' := #[_, _]) rfl rfl Tryz.sizeOf33 rfl rfl rfl rfl (Nat.le_of_ble_eq_true rfl) rfl rfl ?_
              refine gops_nil ?_
              refine hN27 _ _ ?_
              refine gT [box b4 _] rfl ?_
              refine gfrom [(4, .pointer _)] ⟨rfl, trivial⟩ fun σ => ?_
              refine gret fun w1 hM => ?_
              refine ⟨_, res1 rfl (rc 0 (cs := [_, _]) hM rfl rfl Tryz.isAgg33 Tryz.sizeOf33 rfl), ?_⟩
              exact ⟨by rw [Votes.validate, if_neg (by omega), if_neg (by omega), if_neg hfst, hgo, List.drop_of_length_le (by omega)]; rfl, hM.low⟩
    · 
      have hg14d := of_decide_eq_true hg14
      refine gop_off rfl rfl rfl rfl hg14 rfl rfl ?_
      refine gop_off rfl rfl rfl rfl hg14 rfl rfl ?_
      refine gop (y_pick_t (v := .bool _) rfl hg14 rfl) rfl rfl rfl ?_
      refine gops_nil ?_
      refine hN6 _ _ ?_
      refine gfrom [(0, .slice _ _ _), (1, .slice _ _ _), (4, .pointer _), (18, .bool _)] ⟨rfl, rfl, rfl, rfl, trivial⟩ fun σ => ?_
      refine gcond (b := _) rfl (fun hc18 => ?_) (fun hc18 => ?_)
      · 
        refine gseq fun N28 hN28 => ?_
        refine greg ?_
        refine gop (y_build (vs := [(0, _), (1, _)]) (cells := #[_, _]) rfl (bd33_0_1 _ _)) rfl rfl rfl ?_
        refine gop_store 0 (v := .agg #[_, _]) (cs' := #[_, _]) rfl rfl Tryz.sizeOf33 rfl rfl rfl rfl (Nat.le_of_ble_eq_true rfl) rfl rfl ?_
        refine gops_nil ?_
        refine hN28 _ _ ?_
        refine gT [box b4 _] rfl ?_
        refine gfrom [(4, .pointer _)] ⟨rfl, trivial⟩ fun σ => ?_
        refine gret fun w1 hM => ?_
        refine ⟨_, res1 rfl (rc 0 (cs := [_, _]) hM rfl rfl Tryz.isAgg33 Tryz.sizeOf33 rfl), ?_⟩
        exact ⟨by rw [Votes.validate, if_neg (by omega), if_pos (by omega)], hM.low⟩
      · 
        cases hc18
set_option maxHeartbeats 1000000 in
theorem states_any (w : World) (A : Option Addr) (c : Nat) (l : List Vote) (B : Option Addr) (c2 : Nat) (tr : List Bool) (hv : Rdl w 0 3 voteCells A l) (ht : Rdl w 0 1 boolCells B tr) (hl : l.length ≤ maxLen) (htl : tr.length ≤ maxLen) (hcc : tr.length ≤ c2) (at_ : Int) :
    Calls Tryz.prog 65 #[.slice A l.length c, .slice B tr.length c2, .int .i64 at_] w fun e w' => e = .returned (.tuple #[.agg ((Votes.stateL l tr at_).flatMap Votes.stCells).toArray, fv (Votes.stateF l tr at_)]) ∧ Below w.heap.size w w' := by
  refine gcalls Tryz.func65 rfl Tryz.ntmps65 (Nat.le_of_ble_eq_true rfl) ?_
  refine gfrom [(0, .slice _ _ _), (1, .slice _ _ _), (2, .int _ _)] ⟨rfl, rfl, rfl, trivial⟩ fun σ => ?_
  refine gseq fun N1 hN1 => ?_
  refine greg ?_
  refine gop_alloc (cs := ((List.replicate 8 ((0 : Int), false)).flatMap Votes.stCells).toArray) Tryz.zeroValue136 rfl rfl (fun b6 hb6 => ?_)
  refine gop_alloc (cs := #[.int .i64 0, .int .i64 0]) Tryz.zeroValue33 rfl rfl (fun b7 hb7 => ?_)
  refine gops_nil ?_
  refine hN1 _ _ ?_
  refine gT [box b6 _, box b7 _] rfl ?_
  refine gfrom [(0, .slice _ _ _), (1, .slice _ _ _), (2, .int _ _), (6, .pointer _), (7, .pointer _)] ⟨rfl, rfl, rfl, rfl, rfl, trivial⟩ fun σ => ?_
  refine gseq fun N2 hN2 => ?_
  refine greg ?_
  refine gop_alloc (cs := ((List.replicate 8 ((0 : Int), false)).flatMap Votes.stCells).toArray) Tryz.zeroValue136 rfl rfl (fun b8 hb8 => ?_)
  refine gops_nil ?_
  refine hN2 _ _ ?_
  refine gT [box b6 _, box b7 _, box b8 _] rfl ?_
  refine gfrom [(0, .slice _ _ _), (1, .slice _ _ _), (2, .int _ _), (6, .pointer _), (7, .pointer _), (8, .pointer _)] ⟨rfl, rfl, rfl, rfl, rfl, rfl, trivial⟩ fun σ => ?_
  refine gseq fun N3 hN3 => ?_
  refine gseq fun N4 hN4 => ?_
  refine greg ?_
  refine gop (y_move (v := .slice _ _ _) rfl) rfl rfl rfl ?_
  refine gop (y_move (v := .slice _ _ _) rfl) rfl rfl rfl ?_
  refine gop_pure (e_call (vs := [.slice _ _ _, .slice _ _ _]) Tryz.func97 rfl (by kernel_rfl) rfl) (fun w hM => votesValidate_any w _ _ _ _ _ _ (hv.base hM) (ht.base hM) hl htl hcc) rfl rfl rfl ?_
  refine gop_alloc (cs := #[.int .i64 0, .int .i64 0]) Tryz.zeroValue33 rfl rfl (fun b9 hb9 => ?_)
  refine gop_store 3 (v := .agg #[_, _]) (cs' := #[_, _]) rfl rfl Tryz.sizeOf33 rfl rfl rfl rfl (Nat.le_of_ble_eq_true rfl) rfl rfl ?_
  refine gops_nil ?_
  refine hN4 _ _ ?_
  refine gT [box b6 _, box b7 _, box b8 _, box b9 _] rfl ?_
  refine gfrom [(0, .slice _ _ _), (1, .slice _ _ _), (2, .int _ _), (6, .pointer _), (7, .pointer _), (8, .pointer _), (9, .pointer _)] ⟨rfl, rfl, rfl, rfl, rfl, rfl, rfl, trivial⟩ fun σ => ?_
  refine gseq fun N5 hN5 => ?_
  refine greg ?_
  refine gop (y_loads (cs := [_, _]) Tryz.isAgg33 Tryz.sizeOf33 rfl rfl (cells_box 3 rfl)) rfl rfl rfl ?_
  refine gop (y_build (vs := []) (cells := #[.int .i64 0, .int .i64 0]) rfl bd33_) rfl rfl rfl ?_
  refine gop (y_bin (vx := .agg #[_, _]) (vy := .agg #[_, _]) rfl rfl (fun w => eg33 _ _ _ _ _ w) (fun w => ne33 _ _ _ _ w)) rfl rfl rfl ?_
  refine gops_nil ?_
  refine hN5 _ _ ?_
  refine gfrom [(0, .slice _ _ _), (1, .slice _ _ _), (2, .int _ _), (6, .pointer _), (7, .pointer _), (8, .pointer _), (9, .pointer _), (20, .bool _)] ⟨rfl, rfl, rfl, rfl, rfl, rfl, rfl, rfl, trivial⟩ fun σ => ?_
  refine gcond (b := _) rfl (fun hc20 => ?_) (fun hc20 => ?_)
  · 
    replace hc20 := fault_ne.1 hc20
    have hf : Votes.stateF l tr at_ = Votes.validate l tr := by rw [Votes.stateF, if_pos hc20]
    have hL : Votes.stateL l tr at_ = List.replicate 8 (0, false) := by rw [Votes.stateL, hf, if_neg hc20]
    refine gseq fun N6 hN6 => ?_
    refine greg_e1 [] [(0, room b6 136 16), (1, room b7 33 2)] (by kernel_rfl) ?_
    refine ge_take 0 (TK := [room b6 136 16, room b7 33 2, box b8 _, box b9 _]) rfl (by kernel_rfl) (by kernel_rfl) (by kernel_rfl) #[false, true, false, false] (by kernel_rfl) rfl (y_loads (cs := (List.replicate 8 ((0 : Int), false)).flatMap Votes.stCells) Tryz.isAgg136 Tryz.sizeOf136 rfl rfl (cells_box 2 rfl)) rfl rfl rfl (weak_trans (weak_room 0 rfl rfl) (weak_room 1 rfl rfl)) (listed' := #[true, false, false, false]) rfl ?_
    refine ge_take 1 (TK := [room b6 136 16, room b7 33 2, box b8 _, box b9 _]) rfl (by kernel_rfl) (by kernel_rfl) (by kernel_rfl) #[true, false, true, false] (by kernel_rfl) rfl (y_loads (cs := [_, _]) Tryz.isAgg33 Tryz.sizeOf33 rfl rfl (cells_box 3 rfl)) rfl rfl rfl (weak_trans (weak_room 0 rfl rfl) (weak_room 1 rfl rfl)) (listed' := #[true, true, false, false]) rfl ?_
    refine ge_one 2 (k' := 0) (listed' := #[true, true, true, false]) (by kernel_rfl) rfl rfl rfl ?_
    refine gop_store_flat 0 (f := Votes.stCells) Votes.wide_st rfl rfl Tryz.sizeOf136 rfl rfl rfl rfl ?_
    refine gops_nil ?_
    refine ge_fin (TK := [room b6 136 16, room b7 33 2, box b8 _, box b9 _]) rfl (weak_trans (weak_room 0 rfl rfl) (weak_room 1 rfl rfl)) ?_
    refine ge_one 3 (k' := 0) (listed' := #[true, true, true, true]) (by kernel_rfl) rfl rfl rfl ?_
    refine gop_store 1 (v := .agg #[_, _]) (cs' := #[_, _]) rfl rfl Tryz.sizeOf33 rfl rfl rfl rfl (Nat.le_of_ble_eq_true rfl) rfl rfl ?_
    refine gops_nil ?_
    refine ge_fin (TK := [room b6 136 16, room b7 33 2, box b8 _, box b9 _]) rfl (weak_trans (weak_room 0 rfl rfl) (weak_room 1 rfl rfl)) ?_
    refine ge_done (by kernel_rfl) ?_
    refine hN6 _ _ ?_
    refine gT [box b6 _, box b7 _, box b8 _, box b9 _] rfl ?_
    refine gfrom [(6, .pointer _), (7, .pointer _)] ⟨rfl, rfl, trivial⟩ fun σ => ?_
    refine gret fun w1 hM => ?_
    refine ⟨_, res2 rfl (rc 0 (cs := _) hM rfl rfl Tryz.isAgg136 Tryz.sizeOf136 (by first | rfl | (rw [flat_len (size := 2) (fun _ => rfl), Votes.foldl_len]; rfl))) (rc 1 (cs := [_, _]) hM rfl rfl Tryz.isAgg33 Tryz.sizeOf33 rfl), ?_⟩
    exact ⟨by rw [hf, hL], hM.low⟩
  · 
    replace hc20 := fault_eq.1 hc20
    have ok := Votes.ok_of l tr hc20
    refine gskip ?_
    refine hN3 _ _ ?_
    refine gfrom [(0, .slice _ _ _), (1, .slice _ _ _), (2, .int _ _), (6, .pointer _), (7, .pointer _), (8, .pointer _)] ⟨rfl, rfl, rfl, rfl, rfl, rfl, trivial⟩ fun σ => ?_
    refine gseq fun N7 hN7 => ?_
    refine gseq fun N8 hN8 => ?_
    refine greg ?_
    refine gop (y_move (v := .int _ _) rfl) rfl rfl rfl ?_
    refine gop (y_lss rfl rfl) rfl rfl rfl ?_
    refine gop (y_move (v := .bool _) rfl) rfl rfl rfl ?_
    refine gop_if (want := false) rfl rfl rfl rfl rfl rfl (fun hg25 => ?_) (fun hg25 => ?_)
    · 
      have hg25d := of_decide_eq_false hg25
      refine gop (y_bare (y_move (v := .int _ _) rfl)) rfl rfl rfl ?_
      refine gop_on rfl rfl rfl rfl hg25 ?_
      refine gop (y_bare (y_move (v := .slice _ _ _) rfl)) rfl rfl rfl ?_
      refine gop_on rfl rfl rfl rfl hg25 ?_
      refine gop (y_bare (y_len Tryz.underlying46 rfl)) rfl rfl rfl ?_
      refine gop_on rfl rfl rfl rfl hg25 ?_
      refine gop (y_bare (y_geq rfl rfl)) rfl rfl rfl ?_
      refine gop (y_pick_f (v := .bool _) rfl hg25 rfl) rfl rfl rfl ?_
      refine gops_nil ?_
      refine hN8 _ _ ?_
      refine gfrom [(0, .slice _ _ _), (1, .slice _ _ _), (2, .int _ _), (6, .pointer _), (7, .pointer _), (8, .pointer _), (30, .bool _)] ⟨rfl, rfl, rfl, rfl, rfl, rfl, rfl, trivial⟩ fun σ => ?_
      refine gcond (b := _) rfl (fun hc30 => ?_) (fun hc30 => ?_)
      · 
        replace hc30 := of_decide_eq_true hc30
        have hf : Votes.stateF l tr at_ = ⟨3, -3⟩ := by rw [Votes.stateF, if_neg (by simp [hc20]), if_pos (by omega)]
        have hL : Votes.stateL l tr at_ = List.replicate 8 (0, false) := by rw [Votes.stateL, hf, if_neg (by simp)]
        refine gseq fun N9 hN9 => ?_
        refine greg ?_
        refine gop (y_loads (cs := (List.replicate 8 ((0 : Int), false)).flatMap Votes.stCells) Tryz.isAgg136 Tryz.sizeOf136 rfl rfl (cells_box 2 rfl)) rfl rfl rfl ?_
        refine gop (y_build (vs := [(0, _), (1, _)]) (cells := #[_, _]) rfl (bd33_0_1 _ _)) rfl rfl rfl ?_
        refine gop_store_flat 0 (f := Votes.stCells) Votes.wide_st rfl rfl Tryz.sizeOf136 rfl rfl rfl rfl ?_
        refine gop_store 1 (v := .agg #[_, _]) (cs' := #[_, _]) rfl rfl Tryz.sizeOf33 rfl rfl rfl rfl (Nat.le_of_ble_eq_true rfl) rfl rfl ?_
        refine gops_nil ?_
        refine hN9 _ _ ?_
        refine gT [box b6 _, box b7 _, box b8 _, box b9 _] rfl ?_
        refine gfrom [(6, .pointer _), (7, .pointer _)] ⟨rfl, rfl, trivial⟩ fun σ => ?_
        refine gret fun w1 hM => ?_
        refine ⟨_, res2 rfl (rc 0 (cs := _) hM rfl rfl Tryz.isAgg136 Tryz.sizeOf136 (by first | rfl | (rw [flat_len (size := 2) (fun _ => rfl), Votes.foldl_len]; rfl))) (rc 1 (cs := [_, _]) hM rfl rfl Tryz.isAgg33 Tryz.sizeOf33 rfl), ?_⟩
        exact ⟨by rw [hf, hL], hM.low⟩
      · 
        replace hc30 := of_decide_eq_false hc30
        have hf : Votes.stateF l tr at_ = ⟨0, 0⟩ := by rw [Votes.stateF, if_neg (by simp [hc20]), if_neg (by omega)]
        have hL : Votes.stateL l tr at_ = Votes.statesOf l tr at_.toNat := by rw [Votes.stateL, hf, if_pos rfl]
        have hfew := ok.few
        have hshort := ok.short
        obtain ⟨a, rfl⟩ := Int.eq_ofNat_of_zero_le (show 0 ≤ at_ by omega)
        rw [Int.toNat_natCast] at hL
        refine gskip ?_
        refine hN7 _ _ ?_
        refine gfrom [(0, .slice _ _ _), (1, .slice _ _ _), (2, .int _ _), (6, .pointer _), (7, .pointer _), (8, .pointer _)] ⟨rfl, rfl, rfl, rfl, rfl, rfl, trivial⟩ fun σ => ?_
        refine gseq fun N10 hN10 => ?_
        refine gseq fun N11 hN11 => ?_
        refine greg ?_
        refine gop (y_move (v := .slice _ _ _) rfl) rfl rfl rfl ?_
        refine gop (y_len Tryz.underlying49 rfl) rfl rfl rfl ?_
        refine gop (y_move (v := .int _ _) rfl) rfl rfl rfl ?_
        refine gops_nil ?_
        refine hN11 _ _ ?_
        refine gfrom [(1, .slice _ _ _), (2, .int _ _), (6, .pointer _), (7, .pointer _), (8, .pointer _), (33, .slice _ _ _), (34, .int _ _), (35, .int _ _)] ⟨rfl, rfl, rfl, rfl, rfl, rfl, rfl, rfl, trivial⟩ fun σ => ?_
        refine gblock ?_
        refine gfrom2 [(35, .int _ _)] [(1, .slice _ _ _), (2, .int _ _), (6, .pointer _), (7, .pointer _), (8, .pointer _), (33, .slice _ _ _), (34, .int _ _)] ⟨rfl, trivial⟩ ⟨rfl, rfl, rfl, rfl, rfl, rfl, rfl, trivial⟩ fun σ => ?_
        refine gloop2 (G := Nat) (fun k => k ≤ l.length) (fun k => l.length - k) (fun k => [(35, .int .i64 (k : Int))]) (fun k => [(2, box b8 (.cells (((l.take k).foldl (Votes.stepSt tr a) (List.replicate 8 ((0 : Int), false))).flatMap Votes.stCells).toArray 136))]) (0) ?h0 ⟨rfl, trivial⟩ ⟨rfl, rfl, rfl, rfl, rfl, rfl, rfl, trivial⟩ rfl ?round
        case h0 => exact Nat.zero_le _
        case round =>
          intro k hφ σ
          have hk := hφ
          refine gT [box b6 _, box b7 _, box _ _, box b9 _] rfl ?_
          refine gseq fun N12 hN12 => ?_
          refine greg ?_
          refine gop (y_lss rfl rfl) rfl rfl rfl ?_
          refine gops_nil ?_
          refine hN12 _ _ ?_
          refine gfrom [(1, .slice _ _ _), (2, .int _ _), (6, .pointer _), (7, .pointer _), (8, .pointer _), (33, .slice _ _ _), (34, .int _ _), (35, .int _ _), (36, .bool _)] ⟨rfl, rfl, rfl, rfl, rfl, rfl, rfl, rfl, rfl, trivial⟩ fun σ => ?_
          refine gseq fun N13 hN13 => ?_
          refine gcond (b := _) rfl (fun hc36 => ?_) (fun hc36 => ?_)
          · 
            replace hc36 := of_decide_eq_true hc36
            have hk1 : k < l.length := by omega
            obtain ⟨ad, rfl, -, hcv⟩ := hv.at_ hk1
            have hgood : ¬ Votes.Bad tr.length l[k] := ok.good _ (List.getElem_mem hk1)
            unfold Votes.Bad at hgood
            have hstep := Votes.foldl_take_succ (Votes.stepSt tr a) (List.replicate 8 ((0 : Int), false)) l k hk1
            have hlen8 : ((l.take k).foldl (Votes.stepSt tr a) (List.replicate 8 ((0 : Int), false))).length = 8 := by rw [Votes.foldl_len]; rfl
            refine gskip ?_
            refine hN13 _ _ ?_
            refine gfrom [(1, .slice _ _ _), (2, .int _ _), (6, .pointer _), (7, .pointer _), (8, .pointer _), (33, .slice _ _ _), (34, .int _ _), (35, .int _ _)] ⟨rfl, rfl, rfl, rfl, rfl, rfl, rfl, rfl, trivial⟩ fun σ => ?_
            refine gseq fun N14 hN14 => ?_
            refine gblock ?_
            refine gseq fun N15 hN15 => ?_
            refine greg ?_
            refine gop (y_indexAddr Tryz.underlying49 Tryz.sizeOf51 rfl rfl rfl (by omega) (by omega)) rfl rfl rfl ?_
            refine gop (y_loads (cs := [_, _, _]) Tryz.isAgg51 Tryz.sizeOf51 rfl rfl (cells_base hcv)) rfl rfl rfl ?_
            refine gop_alloc (cs := #[.int .i64 0, .int .i64 0, .int .i64 0]) Tryz.zeroValue51 rfl rfl (fun b11 hb11 => ?_)
            refine gop_store 4 (v := .agg #[_, _, _]) (cs' := #[_, _, _]) rfl rfl Tryz.sizeOf51 rfl rfl rfl rfl (Nat.le_of_ble_eq_true rfl) rfl rfl ?_
            refine gops_nil ?_
            refine hN15 _ _ ?_
            refine gT [box b6 _, box b7 _, box _ _, box b9 _, box b11 _] rfl ?_
            refine gfrom [(1, .slice _ _ _), (2, .int _ _), (6, .pointer _), (7, .pointer _), (8, .pointer _), (11, .pointer _), (33, .slice _ _ _), (34, .int _ _), (35, .int _ _)] ⟨rfl, rfl, rfl, rfl, rfl, rfl, rfl, rfl, rfl, trivial⟩ fun σ => ?_
            refine gseq fun N16 hN16 => ?_
            refine gseq fun N17 hN17 => ?_
            refine greg ?_
            refine gop (y_fieldAddr_box fa51_1 rfl) rfl rfl rfl ?_
            refine gop (y_load Tryz.isAgg3 rfl (cell_box 4 rfl rfl)) rfl rfl rfl ?_
            refine gop (y_move (v := .int _ _) rfl) rfl rfl rfl ?_
            refine gop (y_gtr rfl rfl) rfl rfl rfl ?_
            refine gops_nil ?_
            refine hN17 _ _ ?_
            refine gfrom [(1, .slice _ _ _), (2, .int _ _), (6, .pointer _), (7, .pointer _), (8, .pointer _), (11, .pointer _), (33, .slice _ _ _), (34, .int _ _), (35, .int _ _), (42, .bool _)] ⟨rfl, rfl, rfl, rfl, rfl, rfl, rfl, rfl, rfl, rfl, trivial⟩ fun σ => ?_
            refine gcond (b := _) rfl (fun hc42 => ?_) (fun hc42 => ?_)
            · 
              replace hc42 := of_decide_eq_true hc42
              have hsame : (l.take (k + 1)).foldl (Votes.stepSt tr a) (List.replicate 8 ((0 : Int), false)) = (l.take k).foldl (Votes.stepSt tr a) (List.replicate 8 ((0 : Int), false)) := by rw [hstep, Votes.stepSt, if_pos (by omega)]
              refine gexit ?_
              refine hN14 _ _ ?_
              refine gfrom [(1, .slice _ _ _), (2, .int _ _), (6, .pointer _), (7, .pointer _), (8, .pointer _), (33, .slice _ _ _), (34, .int _ _), (35, .int _ _)] ⟨rfl, rfl, rfl, rfl, rfl, rfl, rfl, rfl, trivial⟩ fun σ => ?_
              refine greg ?_
              refine gop (y_add rfl rfl ⟨by omega, by omega⟩) rfl rfl rfl ?_
              refine gop (y_move (v := .int _ _) rfl) rfl rfl rfl ?_
              refine gops_nil ?_
              rw [← hsame]
              refine gnext2 (k + 1) (by omega) (show k + 1 ≤ l.length by omega) ⟨rfl, trivial⟩ ⟨rfl, rfl, rfl, rfl, rfl, rfl, rfl, trivial⟩ ⟨_, rfl⟩
            · 
              replace hc42 := of_decide_eq_false hc42
              have hnew : (l.take (k + 1)).foldl (Votes.stepSt tr a) (List.replicate 8 ((0 : Int), false)) = ((l.take k).foldl (Votes.stepSt tr a) (List.replicate 8 ((0 : Int), false))).set l[k].user.toNat (l[k].val, Votes.cnt tr a l[k] || decide (l[k].val = -2)) := by rw [hstep, Votes.stepSt, if_neg (by omega)]
              have hcut := ht.cut (i := (l[k].rev + 1).toNat) (j := ((a : Int) + 1).toNat) (cap := c2) (by omega) (by omega) hcc
              have hsl : ((tr.drop (l[k].rev + 1).toNat).take (((a : Int) + 1).toNat - (l[k].rev + 1).toNat)).length = ((a : Int) + 1).toNat - (l[k].rev + 1).toNat := by simp; omega
              have hcnt := Votes.cnt_cut tr a l[k] (by omega)
              generalize hsub : (tr.drop (l[k].rev + 1).toNat).take (((a : Int) + 1).toNat - (l[k].rev + 1).toNat) = sub at hcut hsl hcnt
              refine gskip ?_
              refine hN16 _ _ ?_
              refine gfrom [(1, .slice _ _ _), (2, .int _ _), (6, .pointer _), (7, .pointer _), (8, .pointer _), (11, .pointer _), (33, .slice _ _ _), (34, .int _ _), (35, .int _ _)] ⟨rfl, rfl, rfl, rfl, rfl, rfl, rfl, rfl, rfl, trivial⟩ fun σ => ?_
              refine gseq fun N18 hN18 => ?_
              refine greg ?_
              refine gop (y_assign (v := .bool _) rfl) rfl rfl rfl ?_
              refine gops_nil ?_
              refine hN18 _ _ ?_
              refine gfrom [(1, .slice _ _ _), (2, .int _ _), (6, .pointer _), (7, .pointer _), (8, .pointer _), (11, .pointer _), (12, .bool _), (33, .slice _ _ _), (34, .int _ _), (35, .int _ _)] ⟨rfl, rfl, rfl, rfl, rfl, rfl, rfl, rfl, rfl, rfl, trivial⟩ fun σ => ?_
              refine gseq fun N19 hN19 => ?_
              refine gseq fun N20 hN20 => ?_
              refine greg ?_
              refine gop (y_move (v := .slice _ _ _) rfl) rfl rfl rfl ?_
              refine gop (y_fieldAddr_box fa51_1 rfl) rfl rfl rfl ?_
              refine gop (y_load Tryz.isAgg3 rfl (cell_box 4 rfl rfl)) rfl rfl rfl ?_
              refine gop (y_add rfl rfl ⟨by omega, by omega⟩) rfl rfl rfl ?_
              refine gop (y_move (v := .int _ _) rfl) rfl rfl rfl ?_
              refine gop (y_add rfl rfl ⟨by omega, by omega⟩) rfl rfl rfl ?_
              refine gop (y_slice Tryz.underlying46 Tryz.sizeOf4 rfl rfl rfl (by omega) (by omega) (by omega)) rfl rfl rfl ?_
              refine gop (y_len Tryz.underlying46 rfl) rfl rfl rfl ?_
              refine gop (y_move (v := .int _ _) rfl) rfl rfl rfl ?_
              refine gops_nil ?_
              refine hN20 _ _ ?_
              refine gfrom [(1, .slice _ _ _), (2, .int _ _), (6, .pointer _), (7, .pointer _), (8, .pointer _), (11, .pointer _), (12, .bool _), (33, .slice _ _ _), (34, .int _ _), (35, .int _ _), (49, .slice _ _ _), (50, .int _ _), (51, .int _ _)] ⟨rfl, rfl, rfl, rfl, rfl, rfl, rfl, rfl, rfl, rfl, rfl, rfl, rfl, trivial⟩ fun σ => ?_
              refine gblock ?_
              refine gfrom2 [(12, .bool _), (51, .int _ _)] [(1, .slice _ _ _), (2, .int _ _), (6, .pointer _), (7, .pointer _), (8, .pointer _), (11, .pointer _), (33, .slice _ _ _), (34, .int _ _), (35, .int _ _), (49, .slice _ _ _), (50, .int _ _)] ⟨rfl, rfl, trivial⟩ ⟨rfl, rfl, rfl, rfl, rfl, rfl, rfl, rfl, rfl, rfl, rfl, trivial⟩ fun σ => ?_
              refine gloop2 (G := Nat) (fun j => j ≤ sub.length) (fun j => sub.length - j) (fun j => [(12, .bool ((sub.take j).all id)), (51, .int .i64 (j : Int))]) (fun j => []) (0) ?h0 ⟨by simp; rfl, rfl, trivial⟩ ⟨rfl, rfl, rfl, rfl, rfl, rfl, rfl, rfl, rfl, rfl, rfl, trivial⟩ rfl ?round
              case h0 => exact Nat.zero_le _
              case round =>
                intro j hφ σ
                have hj := hφ
                refine gseq fun N21 hN21 => ?_
                refine greg ?_
                refine gop (y_lss rfl rfl) rfl rfl rfl ?_
                refine gops_nil ?_
                refine hN21 _ _ ?_
                refine gfrom [(1, .slice _ _ _), (2, .int _ _), (6, .pointer _), (7, .pointer _), (8, .pointer _), (11, .pointer _), (12, .bool _), (33, .slice _ _ _), (34, .int _ _), (35, .int _ _), (49, .slice _ _ _), (50, .int _ _), (51, .int _ _), (52, .bool _)] ⟨rfl, rfl, rfl, rfl, rfl, rfl, rfl, rfl, rfl, rfl, rfl, rfl, rfl, rfl, trivial⟩ fun σ => ?_
                refine gseq fun N22 hN22 => ?_
                refine gcond (b := _) rfl (fun hc52 => ?_) (fun hc52 => ?_)
                · 
                  replace hc52 := of_decide_eq_true hc52
                  have hj1 : j < sub.length := by omega
                  obtain ⟨adt, eA, -, hct⟩ := hcut.at_ hj1
                  refine gskip ?_
                  refine hN22 _ _ ?_
                  refine gfrom [(1, .slice _ _ _), (2, .int _ _), (6, .pointer _), (7, .pointer _), (8, .pointer _), (11, .pointer _), (12, .bool _), (33, .slice _ _ _), (34, .int _ _), (35, .int _ _), (49, .slice _ _ _), (50, .int _ _), (51, .int _ _)] ⟨rfl, rfl, rfl, rfl, rfl, rfl, rfl, rfl, rfl, rfl, rfl, rfl, rfl, trivial⟩ fun σ => ?_
                  refine gseq fun N23 hN23 => ?_
                  refine gblock ?_
                  refine gseq fun N24 hN24 => ?_
                  refine greg ?_
                  refine gop (y_indexAddr (a := adt) Tryz.underlying46 Tryz.sizeOf4 (show Value.slice _ _ _ = Value.slice (some adt) _ _ from by rw [← eA]) rfl rfl (by omega) (by omega)) rfl rfl rfl ?_
                  refine gop (y_load Tryz.isAgg4 rfl (cell_base (hct 0 _ rfl))) rfl rfl rfl ?_
                  refine gop (y_assign (v := .bool _) rfl) rfl rfl rfl ?_
                  refine gops_nil ?_
                  refine hN24 _ _ ?_
                  refine gfrom [(1, .slice _ _ _), (2, .int _ _), (6, .pointer _), (7, .pointer _), (8, .pointer _), (11, .pointer _), (12, .bool _), (14, .bool _), (33, .slice _ _ _), (34, .int _ _), (35, .int _ _), (49, .slice _ _ _), (50, .int _ _), (51, .int _ _)] ⟨rfl, rfl, rfl, rfl, rfl, rfl, rfl, rfl, rfl, rfl, rfl, rfl, rfl, rfl, trivial⟩ fun σ => ?_
                  refine greg ?_
                  refine gop (y_move (v := .bool _) rfl) rfl rfl rfl ?_
                  refine gop (y_move (v := .bool _) rfl) rfl rfl rfl ?_
                  refine gop_if (want := true) rfl rfl rfl rfl rfl rfl (fun hg56 => ?_) (fun hg56 => ?_)
                  · 
                    have hg56d := hg56
                    skip
                    refine gop (y_bare (y_move (v := .bool _) rfl)) rfl rfl rfl ?_
                    refine gop (y_pick_t (v := .bool _) rfl hg56 rfl) rfl rfl rfl ?_
                    refine gop (y_assign (v := .bool _) rfl) rfl rfl rfl ?_
                    refine gops_nil ?_
                    refine hN23 _ _ ?_
                    refine gfrom [(1, .slice _ _ _), (2, .int _ _), (6, .pointer _), (7, .pointer _), (8, .pointer _), (11, .pointer _), (12, .bool _), (33, .slice _ _ _), (34, .int _ _), (35, .int _ _), (49, .slice _ _ _), (50, .int _ _), (51, .int _ _)] ⟨rfl, rfl, rfl, rfl, rfl, rfl, rfl, rfl, rfl, rfl, rfl, rfl, rfl, trivial⟩ fun σ => ?_
                    refine greg ?_
                    refine gop (y_add rfl rfl ⟨by omega, by omega⟩) rfl rfl rfl ?_
                    refine gop (y_move (v := .int _ _) rfl) rfl rfl rfl ?_
                    refine gops_nil ?_
                    refine gnext2 (j + 1) (by omega) (show j + 1 ≤ sub.length by omega) ⟨(congrArg Value.bool (by rw [Votes.all_take_succ _ j hj1, hg56d]; simp)), rfl, trivial⟩ ⟨rfl, rfl, rfl, rfl, rfl, rfl, rfl, rfl, rfl, rfl, rfl, trivial⟩ ⟨_, rfl⟩
                  · 
                    have hg56d := hg56
                    skip
                    refine gop (y_pick_f (v := .bool _) rfl hg56 rfl) rfl rfl rfl ?_
                    refine gop (y_assign (v := .bool _) rfl) rfl rfl rfl ?_
                    refine gops_nil ?_
                    refine hN23 _ _ ?_
                    refine gfrom [(1, .slice _ _ _), (2, .int _ _), (6, .pointer _), (7, .pointer _), (8, .pointer _), (11, .pointer _), (12, .bool _), (33, .slice _ _ _), (34, .int _ _), (35, .int _ _), (49, .slice _ _ _), (50, .int _ _), (51, .int _ _)] ⟨rfl, rfl, rfl, rfl, rfl, rfl, rfl, rfl, rfl, rfl, rfl, rfl, rfl, trivial⟩ fun σ => ?_
                    refine greg ?_
                    refine gop (y_add rfl rfl ⟨by omega, by omega⟩) rfl rfl rfl ?_
                    refine gop (y_move (v := .int _ _) rfl) rfl rfl rfl ?_
                    refine gops_nil ?_
                    refine gnext2 (j + 1) (by omega) (show j + 1 ≤ sub.length by omega) ⟨(congrArg Value.bool (by rw [Votes.all_take_succ _ j hj1, hg56d]; simp)), rfl, trivial⟩ ⟨rfl, rfl, rfl, rfl, rfl, rfl, rfl, rfl, rfl, rfl, rfl, trivial⟩ ⟨_, rfl⟩
                · 
                  replace hc52 := of_decide_eq_false hc52
                  have hall : sub.take j = sub := List.take_of_length_le (by omega)
                  rw [hall, ← hcnt]
                  refine gexit ?_
                  refine hN19 _ _ ?_
                  refine gfrom [(1, .slice _ _ _), (2, .int _ _), (6, .pointer _), (7, .pointer _), (8, .pointer _), (11, .pointer _), (12, .bool _), (33, .slice _ _ _), (34, .int _ _), (35, .int _ _)] ⟨rfl, rfl, rfl, rfl, rfl, rfl, rfl, rfl, rfl, rfl, trivial⟩ fun σ => ?_
                  refine greg ?_
                  refine gop (y_fieldAddr_box fa51_0 rfl) rfl rfl rfl ?_
                  refine gop (y_load Tryz.isAgg3 rfl (cell_box 4 rfl rfl)) rfl rfl rfl ?_
                  refine gop (y_fieldAddr_box fa51_2 rfl) rfl rfl rfl ?_
                  refine gop (y_load Tryz.isAgg3 rfl (cell_box 4 rfl rfl)) rfl rfl rfl ?_
                  refine gop (y_move (v := .bool _) rfl) rfl rfl rfl ?_
                  refine gop (y_move (v := .bool _) rfl) rfl rfl rfl ?_
                  refine gop_if (want := false) rfl rfl rfl rfl rfl rfl (fun hg65 => ?_) (fun hg65 => ?_)
                  · 
                    have hg65d := hg65
                    refine gop (y_bare (y_fieldAddr_box fa51_2 rfl)) rfl rfl rfl ?_
                    refine gop_on rfl rfl rfl rfl hg65 ?_
                    refine gop (y_bare (y_load Tryz.isAgg3 rfl (cell_box 4 rfl rfl))) rfl rfl rfl ?_
                    refine gop_on rfl rfl rfl rfl hg65 ?_
                    refine gop (y_bare (y_eql rfl rfl)) rfl rfl rfl ?_
                    refine gop (y_pick_f (v := .bool _) rfl hg65 rfl) rfl rfl rfl ?_
                    refine gop (y_build (vs := [(0, .int _ _), (1, .bool _)]) (cells := #[_, _]) rfl (bd135_0_1 _ _)) rfl rfl rfl ?_
                    refine gop (y_indexAddr_arr Tryz.underlying136 Tryz.sizeOf135 rfl rfl rfl (by omega) (by omega)) rfl rfl rfl ?_
                    refine gop_store_el 2 (f := Votes.stCells) (size := 2) (k := l[k].user.toNat) (o := 0) (v := .agg #[_, _]) (a' := (l[k].val, Votes.cnt tr a l[k] || decide (l[k].val = -2))) (fun _ => rfl) rfl (by omega) rfl Tryz.sizeOf135 rfl rfl rfl rfl (List.getElem?_eq_getElem (show l[k].user.toNat < _ by omega)) (by omega) (by rw [hg65d]; rfl) rfl ?_
                    refine gops_nil ?_
                    refine hN14 _ _ ?_
                    refine gT [box b6 _, box b7 _, box _ _, box b9 _, box b11 _] rfl ?_
                    refine gfrom [(1, .slice _ _ _), (2, .int _ _), (6, .pointer _), (7, .pointer _), (8, .pointer _), (33, .slice _ _ _), (34, .int _ _), (35, .int _ _)] ⟨rfl, rfl, rfl, rfl, rfl, rfl, rfl, rfl, trivial⟩ fun σ => ?_
                    refine greg ?_
                    refine gop (y_add rfl rfl ⟨by omega, by omega⟩) rfl rfl rfl ?_
                    refine gop (y_move (v := .int _ _) rfl) rfl rfl rfl ?_
                    refine gops_nil ?_
                    rw [← hnew]
                    refine gnext2 (k + 1) (by omega) (show k + 1 ≤ l.length by omega) ⟨rfl, trivial⟩ ⟨rfl, rfl, rfl, rfl, rfl, rfl, rfl, trivial⟩ ⟨_, rfl⟩
                  · 
                    have hg65d := hg65
                    refine gop_off rfl rfl rfl rfl hg65 rfl rfl ?_
                    refine gop_off rfl rfl rfl rfl hg65 rfl rfl ?_
                    refine gop (y_pick_t (v := .bool _) rfl hg65 rfl) rfl rfl rfl ?_
                    refine gop (y_build (vs := [(0, .int _ _), (1, .bool _)]) (cells := #[_, _]) rfl (bd135_0_1 _ _)) rfl rfl rfl ?_
                    refine gop (y_indexAddr_arr Tryz.underlying136 Tryz.sizeOf135 rfl rfl rfl (by omega) (by omega)) rfl rfl rfl ?_
                    refine gop_store_el 2 (f := Votes.stCells) (size := 2) (k := l[k].user.toNat) (o := 0) (v := .agg #[_, _]) (a' := (l[k].val, Votes.cnt tr a l[k] || decide (l[k].val = -2))) (fun _ => rfl) rfl (by omega) rfl Tryz.sizeOf135 rfl rfl rfl rfl (List.getElem?_eq_getElem (show l[k].user.toNat < _ by omega)) (by omega) (by rw [hg65d]; rfl) rfl ?_
                    refine gops_nil ?_
                    refine hN14 _ _ ?_
                    refine gT [box b6 _, box b7 _, box _ _, box b9 _, box b11 _] rfl ?_
                    refine gfrom [(1, .slice _ _ _), (2, .int _ _), (6, .pointer _), (7, .pointer _), (8, .pointer _), (33, .slice _ _ _), (34, .int _ _), (35, .int _ _)] ⟨rfl, rfl, rfl, rfl, rfl, rfl, rfl, rfl, trivial⟩ fun σ => ?_
                    refine greg ?_
                    refine gop (y_add rfl rfl ⟨by omega, by omega⟩) rfl rfl rfl ?_
                    refine gop (y_move (v := .int _ _) rfl) rfl rfl rfl ?_
                    refine gops_nil ?_
                    rw [← hnew]
                    refine gnext2 (k + 1) (by omega) (show k + 1 ≤ l.length by omega) ⟨rfl, trivial⟩ ⟨rfl, rfl, rfl, rfl, rfl, rfl, rfl, trivial⟩ ⟨_, rfl⟩
          · 
            replace hc36 := of_decide_eq_false hc36
            refine gexit ?_
            refine hN10 _ _ ?_
            refine gfrom [(6, .pointer _), (7, .pointer _), (8, .pointer _)] ⟨rfl, rfl, rfl, trivial⟩ fun σ => ?_
            refine gseq fun N25 hN25 => ?_
            refine greg ?_
            refine gop (y_loads (cs := _) Tryz.isAgg136 Tryz.sizeOf136 (by rw [flat_len (size := 2) (fun _ => rfl), Votes.foldl_len]; rfl) rfl (cells_box 2 rfl)) rfl rfl rfl ?_
            refine gop (y_build (vs := []) (cells := #[.int .i64 0, .int .i64 0]) rfl bd33_) rfl rfl rfl ?_
            refine gop_store_flat 0 (f := Votes.stCells) Votes.wide_st rfl rfl Tryz.sizeOf136 (by rw [Votes.foldl_len]; rfl) rfl (by rw [Votes.foldl_len]) rfl ?_
            refine gop_store 1 (v := .agg #[_, _]) (cs' := #[_, _]) rfl rfl Tryz.sizeOf33 rfl rfl rfl rfl (Nat.le_of_ble_eq_true rfl) rfl rfl ?_
            refine gops_nil ?_
            refine hN25 _ _ ?_
            refine gT [box b6 _, box b7 _, box _ _, box b9 _] rfl ?_
            refine gfrom [(6, .pointer _), (7, .pointer _)] ⟨rfl, rfl, trivial⟩ fun σ => ?_
            refine gret fun w1 hM => ?_
            refine ⟨_, res2 rfl (rc 0 (cs := _) hM rfl rfl Tryz.isAgg136 Tryz.sizeOf136 (by first | rfl | (rw [flat_len (size := 2) (fun _ => rfl), Votes.foldl_len]; rfl))) (rc 1 (cs := [_, _]) hM rfl rfl Tryz.isAgg33 Tryz.sizeOf33 rfl), ?_⟩
            exact ⟨by rw [hf, hL, Votes.statesOf, List.take_of_length_le (show l.length ≤ k by omega)], hM.low⟩
    · 
      have hg25d := of_decide_eq_true hg25
      refine gop_off rfl rfl rfl rfl hg25 rfl rfl ?_
      refine gop_off rfl rfl rfl rfl hg25 rfl rfl ?_
      refine gop_off rfl rfl rfl rfl hg25 rfl rfl ?_
      refine gop (y_pick_t (v := .bool _) rfl hg25 rfl) rfl rfl rfl ?_
      refine gops_nil ?_
      refine hN8 _ _ ?_
      refine gfrom [(0, .slice _ _ _), (1, .slice _ _ _), (2, .int _ _), (6, .pointer _), (7, .pointer _), (8, .pointer _), (30, .bool _)] ⟨rfl, rfl, rfl, rfl, rfl, rfl, rfl, trivial⟩ fun σ => ?_
      refine gcond (b := _) rfl (fun hc30 => ?_) (fun hc30 => ?_)
      · 
        have hf : Votes.stateF l tr at_ = ⟨3, -3⟩ := by rw [Votes.stateF, if_neg (by simp [hc20]), if_pos (by omega)]
        have hL : Votes.stateL l tr at_ = List.replicate 8 (0, false) := by rw [Votes.stateL, hf, if_neg (by simp)]
        refine gseq fun N26 hN26 => ?_
        refine greg ?_
        refine gop (y_loads (cs := (List.replicate 8 ((0 : Int), false)).flatMap Votes.stCells) Tryz.isAgg136 Tryz.sizeOf136 rfl rfl (cells_box 2 rfl)) rfl rfl rfl ?_
        refine gop (y_build (vs := [(0, _), (1, _)]) (cells := #[_, _]) rfl (bd33_0_1 _ _)) rfl rfl rfl ?_
        refine gop_store_flat 0 (f := Votes.stCells) Votes.wide_st rfl rfl Tryz.sizeOf136 rfl rfl rfl rfl ?_
        refine gop_store 1 (v := .agg #[_, _]) (cs' := #[_, _]) rfl rfl Tryz.sizeOf33 rfl rfl rfl rfl (Nat.le_of_ble_eq_true rfl) rfl rfl ?_
        refine gops_nil ?_
        refine hN26 _ _ ?_
        refine gT [box b6 _, box b7 _, box b8 _, box b9 _] rfl ?_
        refine gfrom [(6, .pointer _), (7, .pointer _)] ⟨rfl, rfl, trivial⟩ fun σ => ?_
        refine gret fun w1 hM => ?_
        refine ⟨_, res2 rfl (rc 0 (cs := _) hM rfl rfl Tryz.isAgg136 Tryz.sizeOf136 (by first | rfl | (rw [flat_len (size := 2) (fun _ => rfl), Votes.foldl_len]; rfl))) (rc 1 (cs := [_, _]) hM rfl rfl Tryz.isAgg33 Tryz.sizeOf33 rfl), ?_⟩
        exact ⟨by rw [hf, hL], hM.low⟩
      · 
        cases hc30
set_option maxHeartbeats 1000000 in
theorem current_any (w : World) (A : Option Addr) (c : Nat) (l : List Vote) (B : Option Addr) (c2 : Nat) (tr : List Bool) (hv : Rdl w 0 3 voteCells A l) (ht : Rdl w 0 1 boolCells B tr) (hl : l.length ≤ maxLen) (htl : tr.length ≤ maxLen) (hcc : tr.length ≤ c2) (at_ : Int) :
    Calls Tryz.prog 34 #[.slice A l.length c, .slice B tr.length c2, .int .i64 at_] w fun e w' => ∃ v, e = .returned (.tuple #[v, fv (Votes.stateF l tr at_)]) ∧ Below w.heap.size w w' ∧ NewL 1 intCells (Votes.curL l tr at_) w.heap.size w' v := by
  have h8 := Votes.stateL_len l tr at_
  refine gcalls Tryz.func34 rfl Tryz.ntmps34 (Nat.le_of_ble_eq_true rfl) ?_
  refine gfrom [(0, .slice _ _ _), (1, .slice _ _ _), (2, .int _ _)] ⟨rfl, rfl, rfl, trivial⟩ fun σ => ?_
  refine gseq fun N1 hN1 => ?_
  refine greg ?_
  refine gop (y_assign (v := .slice _ _ _) rfl) rfl rfl rfl ?_
  refine gop_alloc (cs := #[.int .i64 0, .int .i64 0]) Tryz.zeroValue33 rfl rfl (fun b7 hb7 => ?_)
  refine gops_nil ?_
  refine hN1 _ _ ?_
  refine gT [box b7 _] rfl ?_
  refine gfrom [(0, .slice _ _ _), (1, .slice _ _ _), (2, .int _ _), (7, .pointer _)] ⟨rfl, rfl, rfl, rfl, trivial⟩ fun σ => ?_
  refine gseq fun N2 hN2 => ?_
  refine greg ?_
  refine gop (y_move (v := .slice _ _ _) rfl) rfl rfl rfl ?_
  refine gop (y_move (v := .slice _ _ _) rfl) rfl rfl rfl ?_
  refine gop (y_move (v := .int _ _) rfl) rfl rfl rfl ?_
  refine gop_pure (e_call (vs := [.slice _ _ _, .slice _ _ _, .int _ _]) Tryz.func65 rfl (by kernel_rfl) rfl) (fun w hM => states_any w _ _ _ _ _ _ (hv.base hM) (ht.base hM) hl htl hcc _) rfl rfl rfl ?_
  refine gop (y_move (v := .tuple #[.agg _, .agg #[_, _]]) rfl) rfl rfl rfl ?_
  refine gop (y_extract (v := .agg _) rfl rfl) rfl rfl rfl ?_
  refine gop (y_extract (v := .agg #[_, _]) rfl rfl) rfl rfl rfl ?_
  refine gop_alloc (cs := ((List.replicate 8 ((0 : Int), false)).flatMap Votes.stCells).toArray) Tryz.zeroValue136 rfl rfl (fun b8 hb8 => ?_)
  refine gop_alloc (cs := #[.int .i64 0, .int .i64 0]) Tryz.zeroValue33 rfl rfl (fun b9 hb9 => ?_)
  refine gop_store_flat 1 (f := Votes.stCells) Votes.wide_st rfl rfl Tryz.sizeOf136 (by rw [h8]) rfl (by rw [h8]; rfl) rfl ?_
  refine gop_store 2 (v := .agg #[_, _]) (cs' := #[_, _]) rfl rfl Tryz.sizeOf33 rfl rfl rfl rfl (Nat.le_of_ble_eq_true rfl) rfl rfl ?_
  refine gops_nil ?_
  refine hN2 _ _ ?_
  refine gT [box b7 _, box b8 _, box b9 _] rfl ?_
  refine gfrom [(7, .pointer _), (8, .pointer _), (9, .pointer _)] ⟨rfl, rfl, rfl, trivial⟩ fun σ => ?_
  refine gseq fun N3 hN3 => ?_
  refine gseq fun N4 hN4 => ?_
  refine greg ?_
  refine gop (y_loads (cs := [_, _]) Tryz.isAgg33 Tryz.sizeOf33 rfl rfl (cells_box 2 rfl)) rfl rfl rfl ?_
  refine gop (y_build (vs := []) (cells := #[.int .i64 0, .int .i64 0]) rfl bd33_) rfl rfl rfl ?_
  refine gop (y_bin (vx := .agg #[_, _]) (vy := .agg #[_, _]) rfl rfl (fun w => eg33 _ _ _ _ _ w) (fun w => ne33 _ _ _ _ w)) rfl rfl rfl ?_
  refine gops_nil ?_
  refine hN4 _ _ ?_
  refine gfrom [(7, .pointer _), (8, .pointer _), (9, .pointer _), (22, .bool _)] ⟨rfl, rfl, rfl, rfl, trivial⟩ fun σ => ?_
  refine gcond (b := _) rfl (fun hc22 => ?_) (fun hc22 => ?_)
  · 
    replace hc22 := fault_ne.1 hc22
    have hL : Votes.curL l tr at_ = [] := by rw [Votes.curL, if_neg hc22]
    refine gseq fun N5 hN5 => ?_
    refine greg_e1 [] [(0, room b7 33 2)] (by kernel_rfl) ?_
    refine ge_take 0 (TK := [room b7 33 2, box b8 _, box b9 _]) rfl (by kernel_rfl) (by kernel_rfl) (by kernel_rfl) #[false, true, false] (by kernel_rfl) rfl (y_loads (cs := [_, _]) Tryz.isAgg33 Tryz.sizeOf33 rfl rfl (cells_box 2 rfl)) rfl rfl rfl (weak_room 0 rfl rfl) (listed' := #[true, false, false]) rfl ?_
    refine ge_take 1 (TK := [room b7 33 2, box b8 _, box b9 _]) rfl (by kernel_rfl) (by kernel_rfl) (by kernel_rfl) #[true, false, false] (by kernel_rfl) rfl (y_assign (v := .slice _ _ _) rfl) rfl rfl rfl (weak_room 0 rfl rfl) (listed' := #[true, true, false]) rfl ?_
    refine ge_one 2 (k' := 0) (listed' := #[true, true, true]) (by kernel_rfl) rfl rfl rfl ?_
    refine gop_store 0 (v := .agg #[_, _]) (cs' := #[_, _]) rfl rfl Tryz.sizeOf33 rfl rfl rfl rfl (Nat.le_of_ble_eq_true rfl) rfl rfl ?_
    refine gops_nil ?_
    refine ge_fin (TK := [room b7 33 2, box b8 _, box b9 _]) rfl (weak_room 0 rfl rfl) ?_
    refine ge_done (by kernel_rfl) ?_
    refine hN5 _ _ ?_
    refine gT [box b7 _, box b8 _, box b9 _] rfl ?_
    refine gfrom [(6, .slice _ _ _), (7, .pointer _)] ⟨rfl, rfl, trivial⟩ fun σ => ?_
    refine gret fun w1 hM => ?_
    refine ⟨_, res2 rfl (rt (v := .slice _ _ _) rfl) (rc 0 (cs := [_, _]) hM rfl rfl Tryz.isAgg33 Tryz.sizeOf33 rfl), ?_⟩
    exact ⟨_, rfl, hM.low, by rw [hL]; exact newL_nil⟩
  · 
    replace hc22 := fault_eq.1 hc22
    have hL : Votes.curL l tr at_ = (Votes.stateL l tr at_).map Votes.curOf := by rw [Votes.curL, if_pos hc22, Votes.stateL, if_pos hc22]
    refine gskip ?_
    refine hN3 _ _ ?_
    refine gfrom [(7, .pointer _), (8, .pointer _)] ⟨rfl, rfl, trivial⟩ fun σ => ?_
    refine gseq fun N6 hN6 => ?_
    refine greg ?_
    refine gop_make (f := intCells) (bytes := 8) (z := .int .i64 0) ((0 : Int)) Tryz.underlying74 (by kernel_rfl) rfl rfl rfl (k := 8) rfl rfl (by decide) (by decide) rfl (fun b24 hb24 => ?_)
    refine gop (y_assign (v := .slice (some _) _ _) rfl) rfl rfl rfl ?_
    refine gops_nil ?_
    refine hN6 _ _ ?_
    refine gT [box b7 _, box b8 _, box b9 _, rowl _ _ _ _ _ _] rfl ?_
    refine gfrom [(7, .pointer _), (8, .pointer _), (10, .slice (some _) _ _)] ⟨rfl, rfl, rfl, trivial⟩ fun σ => ?_
    refine gseq fun N7 hN7 => ?_
    refine gseq fun N8 hN8 => ?_
    refine greg ?_
    refine gop (y_loads (cs := (Votes.stateL l tr at_).flatMap Votes.stCells) Tryz.isAgg136 Tryz.sizeOf136 (by rw [flat_len (size := 2) (fun _ => rfl), h8]) rfl (cells_box 1 rfl)) rfl rfl rfl ?_
    refine gop (y_move (v := .int _ _) rfl) rfl rfl rfl ?_
    refine gops_nil ?_
    refine hN8 _ _ ?_
    refine gfrom [(7, .pointer _), (10, .slice (some _) _ _), (25, .agg _), (26, .int _ _)] ⟨rfl, rfl, rfl, rfl, trivial⟩ fun σ => ?_
    refine gblock ?_
    refine gfrom2 [(26, .int _ _)] [(7, .pointer _), (10, .slice (some _) _ _), (25, .agg _)] ⟨rfl, trivial⟩ ⟨rfl, rfl, rfl, trivial⟩ fun σ => ?_
    refine gloop2 (G := Nat) (fun k => k ≤ 8) (fun k => 8 - k) (fun k => [(26, .int .i64 (k : Int))]) (fun k => [(3, rowl intCells w.heap.size 3 1 (.slice (some ⟨b24, 0, none⟩) 8 8) (((Votes.stateL l tr at_).take k).map Votes.curOf ++ List.replicate (8 - k) 0))]) (0) ?h0 ⟨rfl, trivial⟩ ⟨rfl, rfl, rfl, trivial⟩ rfl ?round
    case h0 => exact Nat.zero_le _
    case round =>
      intro k hφ σ
      have hk : k ≤ 8 := hφ
      refine gT [box b7 _, box b8 _, box b9 _, rowl _ _ _ _ _ _] rfl ?_
      refine gseq fun N9 hN9 => ?_
      refine greg ?_
      refine gop (y_lss rfl rfl) rfl rfl rfl ?_
      refine gops_nil ?_
      refine hN9 _ _ ?_
      refine gfrom [(7, .pointer _), (10, .slice (some _) _ _), (25, .agg _), (26, .int _ _), (27, .bool _)] ⟨rfl, rfl, rfl, rfl, rfl, trivial⟩ fun σ => ?_
      refine gseq fun N10 hN10 => ?_
      refine gcond (b := _) rfl (fun hc27 => ?_) (fun hc27 => ?_)
      · 
        replace hc27 := of_decide_eq_true hc27
        have hk1 : k < (Votes.stateL l tr at_).length := by omega
        refine gskip ?_
        refine hN10 _ _ ?_
        refine gfrom [(7, .pointer _), (10, .slice (some _) _ _), (25, .agg _), (26, .int _ _)] ⟨rfl, rfl, rfl, rfl, trivial⟩ fun σ => ?_
        refine gseq fun N11 hN11 => ?_
        refine gblock ?_
        refine gseq fun N12 hN12 => ?_
        refine greg ?_
        refine gop (y_move (v := .int _ _) rfl) rfl rfl rfl ?_
        refine gop (y_arridx (m := k) (f := Votes.stCells) (l := Votes.stateL l tr at_) (fun _ => rfl) Tryz.underlying136 Tryz.sizeOf135 Tryz.isAgg135 rfl rfl rfl (by omega) (by omega) (List.getElem?_eq_getElem hk1)) rfl rfl rfl ?_
        refine gop_alloc (cs := #[.int .i64 0, .bool false]) Tryz.zeroValue135 rfl rfl (fun b12 hb12 => ?_)
        refine gop (y_assign (v := .int _ _) rfl) rfl rfl rfl ?_
        refine gop_store 4 (v := .agg #[_, _]) (cs' := #[_, _]) rfl rfl Tryz.sizeOf135 rfl rfl rfl rfl (Nat.le_of_ble_eq_true rfl) rfl rfl ?_
        refine gops_nil ?_
        refine hN12 _ _ ?_
        refine gT [box b7 _, box b8 _, box b9 _, rowl _ _ _ _ _ _, box b12 _] rfl ?_
        refine gfrom [(7, .pointer _), (10, .slice (some _) _ _), (11, .int _ _), (12, .pointer _), (25, .agg _), (26, .int _ _)] ⟨rfl, rfl, rfl, rfl, rfl, rfl, trivial⟩ fun σ => ?_
        refine gseq fun N13 hN13 => ?_
        refine greg ?_
        refine gop (y_fieldAddr_box fa135_1 rfl) rfl rfl rfl ?_
        refine gop (y_load Tryz.isAgg4 rfl (cell_box 4 rfl rfl)) rfl rfl rfl ?_
        refine gops_nil ?_
        refine hN13 _ _ ?_
        refine gfrom [(7, .pointer _), (10, .slice (some _) _ _), (11, .int _ _), (12, .pointer _), (25, .agg _), (26, .int _ _), (31, .bool _)] ⟨rfl, rfl, rfl, rfl, rfl, rfl, rfl, trivial⟩ fun σ => ?_
        refine gcond (b := _) rfl (fun hc31 => ?_) (fun hc31 => ?_)
        · 
          refine greg ?_
          refine gop (y_move (v := .slice (some _) _ _) rfl) rfl rfl rfl ?_
          refine gop (y_move (v := .int _ _) rfl) rfl rfl rfl ?_
          refine gop (y_fieldAddr_box fa135_0 rfl) rfl rfl rfl ?_
          refine gop (y_load Tryz.isAgg3 rfl (cell_box 4 rfl rfl)) rfl rfl rfl ?_
          refine gop (y_indexAddr Tryz.underlying74 Tryz.sizeOf3 rfl rfl rfl (by omega) (by omega)) rfl rfl rfl ?_
          refine gop_store_row 3 (f := intCells) (size := 1) (k := k) (o := 0) (v := .int _ _) (a' := Votes.curOf (Votes.stateL l tr at_)[k]) (fun _ => rfl) rfl (by omega) rfl Tryz.sizeOf3 rfl rfl rfl rfl (by simp; omega) (List.getElem?_eq_getElem (show k < _ by simp; omega)) (by omega) (by rw [Votes.curOf, hc31]; rfl) rfl ?_
          refine gops_nil ?_
          refine hN11 _ _ ?_
          refine gT [box b7 _, box b8 _, box b9 _, rowl _ _ _ _ _ _, box b12 _] rfl ?_
          refine gfrom [(7, .pointer _), (10, .slice (some _) _ _), (25, .agg _), (26, .int _ _)] ⟨rfl, rfl, rfl, rfl, trivial⟩ fun σ => ?_
          refine greg ?_
          refine gop (y_add rfl rfl ⟨by omega, by omega⟩) rfl rfl rfl ?_
          refine gop (y_move (v := .int _ _) rfl) rfl rfl rfl ?_
          refine gops_nil ?_
          rw [← map_set Votes.curOf (Votes.stateL l tr at_) k 8 hk1 (by omega) 0]
          refine gnext2 (k + 1) (by omega) (show k + 1 ≤ 8 by omega) ⟨rfl, trivial⟩ ⟨rfl, rfl, rfl, trivial⟩ ⟨_, rfl⟩
        · 
          refine gskip ?_
          refine hN11 _ _ ?_
          refine gfrom [(7, .pointer _), (10, .slice (some _) _ _), (25, .agg _), (26, .int _ _)] ⟨rfl, rfl, rfl, rfl, trivial⟩ fun σ => ?_
          refine greg ?_
          refine gop (y_add rfl rfl ⟨by omega, by omega⟩) rfl rfl rfl ?_
          refine gop (y_move (v := .int _ _) rfl) rfl rfl rfl ?_
          refine gops_nil ?_
          rw [← map_same Votes.curOf (Votes.stateL l tr at_) k 8 hk1 (by omega) 0 (by rw [Votes.curOf, hc31]; rfl)]
          refine gnext2 (k + 1) (by omega) (show k + 1 ≤ 8 by omega) ⟨rfl, trivial⟩ ⟨rfl, rfl, rfl, trivial⟩ ⟨_, rfl⟩
      · 
        replace hc27 := of_decide_eq_false hc27
        refine gexit ?_
        refine hN7 _ _ ?_
        refine gfrom [(7, .pointer _), (10, .slice (some _) _ _)] ⟨rfl, rfl, trivial⟩ fun σ => ?_
        refine gseq fun N14 hN14 => ?_
        refine greg ?_
        refine gop (y_move (v := .slice (some _) _ _) rfl) rfl rfl rfl ?_
        refine gop (y_build (vs := []) (cells := #[.int .i64 0, .int .i64 0]) rfl bd33_) rfl rfl rfl ?_
        refine gop (y_assign (v := .slice (some _) _ _) rfl) rfl rfl rfl ?_
        refine gop_store 0 (v := .agg #[_, _]) (cs' := #[_, _]) rfl rfl Tryz.sizeOf33 rfl rfl rfl rfl (Nat.le_of_ble_eq_true rfl) rfl rfl ?_
        refine gops_nil ?_
        refine hN14 _ _ ?_
        refine gT [box b7 _, box b8 _, box b9 _, rowl _ _ _ _ _ _] rfl ?_
        refine gfrom [(6, .slice (some _) _ _), (7, .pointer _)] ⟨rfl, rfl, trivial⟩ fun σ => ?_
        refine gret fun w1 hM => ?_
        refine ⟨_, res2 rfl (rt (v := .slice (some _) _ _) rfl) (rc 0 (cs := [_, _]) hM rfl rfl Tryz.isAgg33 Tryz.sizeOf33 rfl), ?_⟩
        exact ⟨_, by rw [hc22], hM.low, by rw [hL, ← map_end Votes.curOf (Votes.stateL l tr at_) k 8 (by omega) (by omega) 0]; exact hM.newL 3 rfl (fun _ => rfl)⟩
set_option maxHeartbeats 1000000 in
theorem score_any (w : World) (A : Option Addr) (c : Nat) (l : List Vote) (B : Option Addr) (c2 : Nat) (tr : List Bool) (hv : Rdl w 0 3 voteCells A l) (ht : Rdl w 0 1 boolCells B tr) (hl : l.length ≤ maxLen) (htl : tr.length ≤ maxLen) (hcc : tr.length ≤ c2) (at_ : Int) :
    Calls Tryz.prog 10 #[.slice A l.length c, .slice B tr.length c2, .int .i64 at_] w fun e w' => e = .returned (.tuple #[.int .i64 (Votes.scoreN l tr at_), .bool (Votes.scoreV l tr at_), fv (Votes.stateF l tr at_)]) ∧ Below w.heap.size w w' := by
  have hbd := Votes.curL_bd l tr at_
  have hln := Votes.curL_len l tr at_
  refine gcalls Tryz.func10 rfl Tryz.ntmps10 (Nat.le_of_ble_eq_true rfl) ?_
  refine gfrom [(0, .slice _ _ _), (1, .slice _ _ _), (2, .int _ _)] ⟨rfl, rfl, rfl, trivial⟩ fun σ => ?_
  refine gseq fun N1 hN1 => ?_
  refine greg ?_
  refine gop (y_assign (v := .int _ _) rfl) rfl rfl rfl ?_
  refine gop (y_assign (v := .bool _) rfl) rfl rfl rfl ?_
  refine gop_alloc (cs := #[.int .i64 0, .int .i64 0]) Tryz.zeroValue33 rfl rfl (fun b8 hb8 => ?_)
  refine gops_nil ?_
  refine hN1 _ _ ?_
  refine gT [box b8 _] rfl ?_
  refine gfrom [(0, .slice _ _ _), (1, .slice _ _ _), (2, .int _ _), (8, .pointer _)] ⟨rfl, rfl, rfl, rfl, trivial⟩ fun σ => ?_
  refine gseq fun N2 hN2 => ?_
  refine greg ?_
  refine gop (y_move (v := .slice _ _ _) rfl) rfl rfl rfl ?_
  refine gop (y_move (v := .slice _ _ _) rfl) rfl rfl rfl ?_
  refine gop (y_move (v := .int _ _) rfl) rfl rfl rfl ?_
  refine gop_new (fun lo ws v => ∃ v1, v = .tuple #[v1, fv (Votes.stateF l tr at_)] ∧ NewL 1 intCells (Votes.curL l tr at_) lo ws v1) (e_call (vs := [.slice _ _ _, .slice _ _ _, .int _ _]) Tryz.func34 rfl (by kernel_rfl) rfl) (fun w hM => (current_any w _ _ _ _ _ _ (hv.base hM) (ht.base hM) hl htl hcc _).mono fun _ _ ⟨v, h1, h2, h3⟩ => ⟨_, h1, h2, v, rfl, h3⟩) rfl rfl rfl ?_
  rintro _ lo ws hlo ⟨_, rfl, Ac, cc, rfl, hcc1, -, hcur⟩
  refine gop (y_move (v := .tuple #[.slice _ _ _, .agg #[_, _]]) rfl) rfl rfl rfl ?_
  refine gop (y_extract (v := .slice _ _ _) rfl rfl) rfl rfl rfl ?_
  refine gop (y_extract (v := .agg #[_, _]) rfl rfl) rfl rfl rfl ?_
  refine gop_alloc (cs := #[.int .i64 0, .int .i64 0]) Tryz.zeroValue33 rfl rfl (fun b10 hb10 => ?_)
  refine gop (y_assign (v := .slice _ _ _) rfl) rfl rfl rfl ?_
  refine gop_store 2 (v := .agg #[_, _]) (cs' := #[_, _]) rfl rfl Tryz.sizeOf33 rfl rfl rfl rfl (Nat.le_of_ble_eq_true rfl) rfl rfl ?_
  refine gops_nil ?_
  refine hN2 _ _ ?_
  refine gT [box b8 _, seal_ _ _, box b10 _] rfl ?_
  refine gfrom [(8, .pointer _), (9, .slice _ _ _), (10, .pointer _)] ⟨rfl, rfl, rfl, trivial⟩ fun σ => ?_
  refine gseq fun N3 hN3 => ?_
  refine gseq fun N4 hN4 => ?_
  refine greg ?_
  refine gop (y_loads (cs := [_, _]) Tryz.isAgg33 Tryz.sizeOf33 rfl rfl (cells_box 2 rfl)) rfl rfl rfl ?_
  refine gop (y_build (vs := []) (cells := #[.int .i64 0, .int .i64 0]) rfl bd33_) rfl rfl rfl ?_
  refine gop (y_bin (vx := .agg #[_, _]) (vy := .agg #[_, _]) rfl rfl (fun w => eg33 _ _ _ _ _ w) (fun w => ne33 _ _ _ _ w)) rfl rfl rfl ?_
  refine gops_nil ?_
  refine hN4 _ _ ?_
  refine gfrom [(8, .pointer _), (9, .slice _ _ _), (10, .pointer _), (24, .bool _)] ⟨rfl, rfl, rfl, rfl, trivial⟩ fun σ => ?_
  refine gcond (b := _) rfl (fun hc24 => ?_) (fun hc24 => ?_)
  · 
    replace hc24 := fault_ne.1 hc24
    have hL : Votes.curL l tr at_ = [] := by rw [Votes.curL, if_neg hc24]
    refine gseq fun N5 hN5 => ?_
    refine greg_e1 [] [(0, room b8 33 2)] (by kernel_rfl) ?_
    refine ge_take 0 (TK := [room b8 33 2, seal_ _ _, box b10 _]) rfl (by kernel_rfl) (by kernel_rfl) (by kernel_rfl) #[false, true, true, false] (by kernel_rfl) rfl (y_loads (cs := [_, _]) Tryz.isAgg33 Tryz.sizeOf33 rfl rfl (cells_box 2 rfl)) rfl rfl rfl (weak_room 0 rfl rfl) (listed' := #[true, false, false, false]) rfl ?_
    refine ge_take 1 (TK := [room b8 33 2, seal_ _ _, box b10 _]) rfl (by kernel_rfl) (by kernel_rfl) (by kernel_rfl) #[true, false, false, false] (by kernel_rfl) rfl (y_assign (v := .int _ _) rfl) rfl rfl rfl (weak_room 0 rfl rfl) (listed' := #[true, true, false, false]) rfl ?_
    refine ge_take 2 (TK := [room b8 33 2, seal_ _ _, box b10 _]) rfl (by kernel_rfl) (by kernel_rfl) (by kernel_rfl) #[true, true, false, false] (by kernel_rfl) rfl (y_assign (v := .bool _) rfl) rfl rfl rfl (weak_room 0 rfl rfl) (listed' := #[true, true, true, false]) rfl ?_
    refine ge_one 3 (k' := 0) (listed' := #[true, true, true, true]) (by kernel_rfl) rfl rfl rfl ?_
    refine gop_store 0 (v := .agg #[_, _]) (cs' := #[_, _]) rfl rfl Tryz.sizeOf33 rfl rfl rfl rfl (Nat.le_of_ble_eq_true rfl) rfl rfl ?_
    refine gops_nil ?_
    refine ge_fin (TK := [room b8 33 2, seal_ _ _, box b10 _]) rfl (weak_room 0 rfl rfl) ?_
    refine ge_done (by kernel_rfl) ?_
    refine hN5 _ _ ?_
    refine gT [box b8 _, seal_ _ _, box b10 _] rfl ?_
    refine gfrom [(6, .int _ _), (7, .bool _), (8, .pointer _)] ⟨rfl, rfl, rfl, trivial⟩ fun σ => ?_
    refine gret fun w1 hM => ?_
    refine ⟨_, res3 rfl (rt (v := .int _ _) rfl) (rt (v := .bool _) rfl) (rc 0 (cs := [_, _]) hM rfl rfl Tryz.isAgg33 Tryz.sizeOf33 rfl), ?_⟩
    exact ⟨by rw [Votes.scoreN, Votes.scoreV, hL]; rfl, hM.low⟩
  · 
    replace hc24 := fault_eq.1 hc24
    refine gskip ?_
    refine hN3 _ _ ?_
    refine gfrom [(8, .pointer _), (9, .slice _ _ _)] ⟨rfl, rfl, trivial⟩ fun σ => ?_
    refine gseq fun N6 hN6 => ?_
    refine greg ?_
    refine gop (y_assign (v := .int _ _) rfl) rfl rfl rfl ?_
    refine gop (y_assign (v := .bool _) rfl) rfl rfl rfl ?_
    refine gops_nil ?_
    refine hN6 _ _ ?_
    refine gfrom [(8, .pointer _), (9, .slice _ _ _), (11, .int _ _), (12, .bool _)] ⟨rfl, rfl, rfl, rfl, trivial⟩ fun σ => ?_
    refine gseq fun N7 hN7 => ?_
    refine gseq fun N8 hN8 => ?_
    refine greg ?_
    refine gop (y_move (v := .slice _ _ _) rfl) rfl rfl rfl ?_
    refine gop (y_len Tryz.underlying74 rfl) rfl rfl rfl ?_
    refine gop (y_move (v := .int _ _) rfl) rfl rfl rfl ?_
    refine gops_nil ?_
    refine hN8 _ _ ?_
    refine gfrom [(8, .pointer _), (11, .int _ _), (12, .bool _), (26, .slice _ _ _), (27, .int _ _), (28, .int _ _)] ⟨rfl, rfl, rfl, rfl, rfl, rfl, trivial⟩ fun σ => ?_
    refine gblock ?_
    refine gfrom2 [(11, .int _ _), (12, .bool _), (28, .int _ _)] [(8, .pointer _), (26, .slice _ _ _), (27, .int _ _)] ⟨rfl, rfl, rfl, trivial⟩ ⟨rfl, rfl, rfl, trivial⟩ fun σ => ?_
    refine gloop2 (G := Nat) (fun k => k ≤ (Votes.curL l tr at_).length) (fun k => (Votes.curL l tr at_).length - k) (fun k => [(11, .int .i64 (Votes.isum ((Votes.curL l tr at_).take k))), (12, .bool (((Votes.curL l tr at_).take k).any fun n => decide (n = -2))), (28, .int .i64 (k : Int))]) (fun k => []) (0) ?h0 ⟨rfl, rfl, rfl, trivial⟩ ⟨rfl, rfl, rfl, trivial⟩ rfl ?round
    case h0 => exact Nat.zero_le _
    case round =>
      intro k hφ σ
      have hk := hφ
      refine gseq fun N9 hN9 => ?_
      refine greg ?_
      refine gop (y_lss rfl rfl) rfl rfl rfl ?_
      refine gops_nil ?_
      refine hN9 _ _ ?_
      refine gfrom [(8, .pointer _), (11, .int _ _), (12, .bool _), (26, .slice _ _ _), (27, .int _ _), (28, .int _ _), (29, .bool _)] ⟨rfl, rfl, rfl, rfl, rfl, rfl, rfl, trivial⟩ fun σ => ?_
      refine gseq fun N10 hN10 => ?_
      refine gcond (b := _) rfl (fun hc29 => ?_) (fun hc29 => ?_)
      · 
        replace hc29 := of_decide_eq_true hc29
        have hk1 : k < (Votes.curL l tr at_).length := by omega
        obtain ⟨ad, rfl, hlo2, hcv⟩ := hcur.at_ hk1
        have hb1 := hbd _ (List.getElem_mem hk1)
        have hs1 := Votes.isum_take (Votes.curL l tr at_) k hk1
        have ha1 := any_take (fun n => decide (n = -2)) (Votes.curL l tr at_) k hk1
        have hb2 := Votes.isum_bd (Votes.curL l tr at_) hbd k
        refine gskip ?_
        refine hN10 _ _ ?_
        refine gfrom [(8, .pointer _), (11, .int _ _), (12, .bool _), (26, .slice _ _ _), (27, .int _ _), (28, .int _ _)] ⟨rfl, rfl, rfl, rfl, rfl, rfl, trivial⟩ fun σ => ?_
        refine gseq fun N11 hN11 => ?_
        refine gblock ?_
        refine gseq fun N12 hN12 => ?_
        refine greg ?_
        refine gop (y_indexAddr Tryz.underlying74 Tryz.sizeOf3 rfl rfl rfl (by omega) (by omega)) rfl rfl rfl ?_
        refine gop (y_load Tryz.isAgg3 rfl (cell_seal 1 rfl (by rw [block_add]; exact hlo2) (hcv 0 _ rfl))) rfl rfl rfl ?_
        refine gop (y_assign (v := .int _ _) rfl) rfl rfl rfl ?_
        refine gops_nil ?_
        refine hN12 _ _ ?_
        refine gfrom [(8, .pointer _), (11, .int _ _), (12, .bool _), (14, .int _ _), (26, .slice _ _ _), (27, .int _ _), (28, .int _ _)] ⟨rfl, rfl, rfl, rfl, rfl, rfl, rfl, trivial⟩ fun σ => ?_
        refine gseq fun N13 hN13 => ?_
        refine greg ?_
        refine gop (y_move (v := .int _ _) rfl) rfl rfl rfl ?_
        refine gop (y_move (v := .int _ _) rfl) rfl rfl rfl ?_
        refine gop (y_add rfl rfl ⟨by omega, by omega⟩) rfl rfl rfl ?_
        refine gop (y_assign (v := .int _ _) rfl) rfl rfl rfl ?_
        refine gops_nil ?_
        refine hN13 _ _ ?_
        refine gfrom [(8, .pointer _), (11, .int _ _), (12, .bool _), (14, .int _ _), (26, .slice _ _ _), (27, .int _ _), (28, .int _ _)] ⟨rfl, rfl, rfl, rfl, rfl, rfl, rfl, trivial⟩ fun σ => ?_
        refine greg ?_
        refine gop (y_move (v := .bool _) rfl) rfl rfl rfl ?_
        refine gop (y_move (v := .bool _) rfl) rfl rfl rfl ?_
        refine gop_if (want := false) rfl rfl rfl rfl rfl rfl (fun hg36 => ?_) (fun hg36 => ?_)
        · 
          have hg36d := hg36
          refine gop (y_bare (y_move (v := .int _ _) rfl)) rfl rfl rfl ?_
          refine gop_on rfl rfl rfl rfl hg36 ?_
          refine gop (y_bare (y_eql rfl rfl)) rfl rfl rfl ?_
          refine gop (y_pick_f (v := .bool _) rfl hg36 rfl) rfl rfl rfl ?_
          refine gop (y_assign (v := .bool _) rfl) rfl rfl rfl ?_
          refine gops_nil ?_
          refine hN11 _ _ ?_
          refine gfrom [(8, .pointer _), (11, .int _ _), (12, .bool _), (26, .slice _ _ _), (27, .int _ _), (28, .int _ _)] ⟨rfl, rfl, rfl, rfl, rfl, rfl, trivial⟩ fun σ => ?_
          refine greg ?_
          refine gop (y_add rfl rfl ⟨by omega, by omega⟩) rfl rfl rfl ?_
          refine gop (y_move (v := .int _ _) rfl) rfl rfl rfl ?_
          refine gops_nil ?_
          refine gnext2 (k + 1) (by omega) (show k + 1 ≤ _ by omega) ⟨(congrArg (Value.int .i64) hs1.symm), (congrArg Value.bool (by rw [ha1, hg36d]; rfl)), rfl, trivial⟩ ⟨rfl, rfl, rfl, trivial⟩ ⟨_, rfl⟩
        · 
          have hg36d := hg36
          refine gop_off rfl rfl rfl rfl hg36 rfl rfl ?_
          refine gop (y_pick_t (v := .bool _) rfl hg36 rfl) rfl rfl rfl ?_
          refine gop (y_assign (v := .bool _) rfl) rfl rfl rfl ?_
          refine gops_nil ?_
          refine hN11 _ _ ?_
          refine gfrom [(8, .pointer _), (11, .int _ _), (12, .bool _), (26, .slice _ _ _), (27, .int _ _), (28, .int _ _)] ⟨rfl, rfl, rfl, rfl, rfl, rfl, trivial⟩ fun σ => ?_
          refine greg ?_
          refine gop (y_add rfl rfl ⟨by omega, by omega⟩) rfl rfl rfl ?_
          refine gop (y_move (v := .int _ _) rfl) rfl rfl rfl ?_
          refine gops_nil ?_
          refine gnext2 (k + 1) (by omega) (show k + 1 ≤ _ by omega) ⟨(congrArg (Value.int .i64) hs1.symm), (congrArg Value.bool (by rw [ha1, hg36d]; rfl)), rfl, trivial⟩ ⟨rfl, rfl, rfl, trivial⟩ ⟨_, rfl⟩
      · 
        replace hc29 := of_decide_eq_false hc29
        refine gexit ?_
        refine hN7 _ _ ?_
        refine gfrom [(8, .pointer _), (11, .int _ _), (12, .bool _)] ⟨rfl, rfl, rfl, trivial⟩ fun σ => ?_
        refine gseq fun N14 hN14 => ?_
        refine greg ?_
        refine gop (y_move (v := .int _ _) rfl) rfl rfl rfl ?_
        refine gop (y_move (v := .bool _) rfl) rfl rfl rfl ?_
        refine gop (y_build (vs := []) (cells := #[.int .i64 0, .int .i64 0]) rfl bd33_) rfl rfl rfl ?_
        refine gop (y_assign (v := .int _ _) rfl) rfl rfl rfl ?_
        refine gop (y_assign (v := .bool _) rfl) rfl rfl rfl ?_
        refine gop_store 0 (v := .agg #[_, _]) (cs' := #[_, _]) rfl rfl Tryz.sizeOf33 rfl rfl rfl rfl (Nat.le_of_ble_eq_true rfl) rfl rfl ?_
        refine gops_nil ?_
        refine hN14 _ _ ?_
        refine gT [box b8 _, seal_ _ _, box b10 _] rfl ?_
        refine gfrom [(6, .int _ _), (7, .bool _), (8, .pointer _)] ⟨rfl, rfl, rfl, trivial⟩ fun σ => ?_
        refine gret fun w1 hM => ?_
        refine ⟨_, res3 rfl (rt (v := .int _ _) rfl) (rt (v := .bool _) rfl) (rc 0 (cs := [_, _]) hM rfl rfl Tryz.isAgg33 Tryz.sizeOf33 rfl), ?_⟩
        have hall := List.take_of_length_le (l := Votes.curL l tr at_) (i := k) (by omega)
        exact ⟨by rw [hall, hc24]; rfl, hM.low⟩
end Go.Proofs.YtbkameioedmlkaaGreatDoor
namespace Go.Proofs.YtbkameioedmlkaaGreatDoor
open Go.RowKit Go.Cf
set_option maxRecDepth 10000
theorem bd29_0_1_3_4 (x1 : Int) (x2 : Int) (x3 : Int) (x4 : ByteArray) : Tryz.prog.built 29 [(0, .int .i64 x1), (1, .int .i64 x2), (3, .int .i64 x3), (4, .string x4)] = some #[.int .i64 x1, .int .i64 x2, .int .i64 0, .int .i64 x3, .string x4, .slice none 0 0] := by kernel_rfl
theorem bd92_2 (x1 : Option Addr) (x1l x1c : Nat) : Tryz.prog.built 92 [(2, .slice x1 x1l x1c)] = some #[.int .i64 0, .slice none 0 0, .slice x1 x1l x1c] := by kernel_rfl
theorem bd27_0 (x1 : Option Addr) (x1l x1c : Nat) : Tryz.prog.built 27 [(0, .slice x1 x1l x1c)] = some #[.slice x1 x1l x1c] := by kernel_rfl
theorem bd61_  : Tryz.prog.built 61 [] = some #[.slice none 0 0] := by kernel_rfl
theorem bd51_2 (x1 : Int) : Tryz.prog.built 51 [(2, .int .i64 x1)] = some #[.int .i64 0, .int .i64 0, .int .i64 x1] := by kernel_rfl
set_option maxHeartbeats 16000000 in
theorem nReviews_any (w : World) (hL : LaidP w) : Calls Tryz.prog 7 #[] w fun e w' => e = .returned (.bool true) ∧ Below w.heap.size w w' := by
  refine gcalls Tryz.func7 rfl Tryz.ntmps7 (Nat.le_of_ble_eq_true rfl) ?_
  refine gfrom [] trivial fun σ => ?_
  refine gseq fun N1 hN1 => ?_
  refine greg ?_
  refine gop (y_assign (v := .bool _) rfl) rfl rfl rfl ?_
  refine gops_nil ?_
  refine hN1 _ _ ?_
  refine gfrom [] trivial fun σ => ?_
  refine gseq fun N2 hN2 => ?_
  refine greg ?_
  refine gop (y_build (vs := [(0, _), (1, _), (3, _), (4, _)]) (cells := #[_, _, .int .i64 0, _, _, .slice none 0 0]) rfl (bd29_0_1_3_4 _ _ _ _)) rfl rfl rfl ?_
  refine gop_lit (vs := [.agg #[_, _, _, _, _, _]]) (cells := #[_, _, _, _, _, _]) Tryz.underlying30 Tryz.sizeOf29 Tryz.zeroValue29 rfl (by decide) (by decide) rfl rfl rfl rfl (fun b16 hb16 => ?_)
  refine gop (y_assign (v := .slice (some _) _ _) rfl) rfl rfl rfl ?_
  refine gops_nil ?_
  refine hN2 _ _ ?_
  refine gT [box b16 _] rfl ?_
  refine gfrom [(1, .slice (some _) _ _)] ⟨rfl, trivial⟩ fun σ => ?_
  refine gseq fun N3 hN3 => ?_
  refine greg ?_
  refine gop_lit (vs := [.string _]) (cells := #[_]) Tryz.underlying22 Tryz.sizeOf9 Tryz.zeroValue9 rfl (by decide) (by decide) rfl rfl rfl rfl (fun b18 hb18 => ?_)
  refine gop (y_move (v := .slice (some _) _ _) rfl) rfl rfl rfl ?_
  refine gop_new (fun lo ws v => ∃ v1 v2, v = .tuple #[v1, v2, fv ⟨0, 0⟩] ∧ NewL 5 thrCells [⟨1, 0, 1, false, false⟩] lo ws v1 ∧ NewL 1 strCells [xA] lo ws v2) (e_call (vs := [.slice (some _) _ _, .slice (some _) _ _]) Tryz.func8 rfl (by kernel_rfl) rfl) (fun w hM => by have he : EvsR w 0 (some ⟨b16, 0, none⟩) [⟨1, 1, 0, 0, nWhy, none, 0, []⟩] := ⟨((Rdl.of_box 0 (f := evCells) (fun _ => rfl) hM rfl rfl).mono (Nat.zero_le _)), fun e he => (by obtain rfl := List.mem_singleton.1 he; exact ⟨PatR.nil⟩)⟩; have hc := run_any w (some ⟨b18, 0, none⟩) 1 [xA] ((Rdl.of_box 1 (f := strCells) (fun _ => rfl) hM rfl rfl).mono (Nat.zero_le _)) (SB.lit 1 (by decide) (by decide)) (some ⟨b16, 0, none⟩) 1 [⟨1, 1, 0, 0, nWhy, none, 0, []⟩] he (by simp [maxLen]); rw [show runV [xA] (evs [⟨1, 1, 0, 0, nWhy, none, 0, []⟩]) = _ from nex_run] at hc; exact hc.mono fun _ _ ⟨v1, v2, h1, h2, h3, h4⟩ => ⟨_, h1, h2, v1, v2, rfl, h3, h4⟩) rfl rfl rfl ?_
  rintro _ lo20 ws20 hlo20 ⟨_, _, rfl, ⟨A20, c20, rfl, hcc20, hcm20, hr20⟩, ⟨B20, d20, rfl, hdc20, hdm20, hq20⟩⟩
  refine gop (y_move (v := .tuple #[.slice _ _ _, .slice _ _ _, .agg #[_, _]]) rfl) rfl rfl rfl ?_
  refine gop (y_extract (v := .slice _ _ _) rfl rfl) rfl rfl rfl ?_
  refine gop (y_extract (v := .slice _ _ _) rfl rfl) rfl rfl rfl ?_
  refine gop (y_extract (v := .agg #[_, _]) rfl rfl) rfl rfl rfl ?_
  refine gop_alloc (cs := #[.int .i64 0, .int .i64 0]) Tryz.zeroValue33 rfl rfl (fun b4 hb4 => ?_)
  refine gop (y_assign (v := .slice _ _ _) rfl) rfl rfl rfl ?_
  refine gop (y_assign (v := .slice _ _ _) rfl) rfl rfl rfl ?_
  refine gop_store 3 (v := .agg #[_, _]) (cs' := #[_, _]) rfl rfl Tryz.sizeOf33 rfl rfl rfl rfl (Nat.le_of_ble_eq_true rfl) rfl rfl ?_
  refine gops_nil ?_
  refine hN3 _ _ ?_
  refine gT [box b16 _, box b18 _, seal_ _ _, box b4 _] rfl ?_
  refine gfrom [(2, .slice _ _ _), (4, .pointer _)] ⟨rfl, rfl, trivial⟩ fun σ => ?_
  refine gseq fun N4 hN4 => ?_
  refine greg ?_
  refine gop_lit (vs := [.string _]) (cells := #[_]) Tryz.underlying22 Tryz.sizeOf9 Tryz.zeroValue9 rfl (by decide) (by decide) rfl rfl rfl rfl (fun b25 hb25 => ?_)
  refine gop (y_build (vs := [(2, .slice (some _) _ _)]) (cells := #[.int .i64 0, .slice none 0 0, _]) rfl (bd92_2 _ _ _)) rfl rfl rfl ?_
  refine gop_lit (vs := [.agg #[_, _, _]]) (cells := #[_, _, _]) Tryz.underlying25 Tryz.sizeOf92 Tryz.zeroValue92 rfl (by decide) (by decide) rfl rfl rfl rfl (fun b27 hb27 => ?_)
  refine gop (y_build (vs := [(0, .slice (some _) _ _)]) (cells := #[_]) rfl (bd27_0 _ _ _)) rfl rfl rfl ?_
  refine gop_lit (vs := [.agg #[_]]) (cells := #[_]) Tryz.underlying23 Tryz.sizeOf27 Tryz.zeroValue27 rfl (by decide) (by decide) rfl rfl rfl rfl (fun b29 hb29 => ?_)
  refine gop_pure (e_call (vs := [.slice (some _) _ _, _]) Tryz.func9 rfl (by kernel_rfl) rfl) (fun w hM => by have hp : PatsR w 0 (some ⟨b29, 0, none⟩) [⟨some ⟨b27, 0, none⟩, 1, [⟨⟨0, [], [nX]⟩, none, 0, some ⟨b25, 0, none⟩, 1⟩]⟩] := ⟨((Rdl.of_box 6 (f := patCells) (fun _ => rfl) hM rfl rfl).mono (Nat.zero_le _)), fun p hp => (by obtain rfl := List.mem_singleton.1 hp; exact ⟨((Rdl.of_box 5 (f := hunkCells) (fun _ => rfl) hM rfl rfl).mono (Nat.zero_le _)), fun h hh => (by obtain rfl := List.mem_singleton.1 hh; exact ⟨Rdl.nil, ((Rdl.of_box 4 (f := strCells) (fun _ => rfl) hM rfl rfl).mono (Nat.zero_le _)), SB.none _, SB.lit 1 (by decide) (by decide), (by show In64 0; unfold In64; decide)⟩), SB.lit 1 (by decide) (by decide)⟩)⟩; have hc := through_any w (some ⟨b29, 0, none⟩) 1 [⟨some ⟨b27, 0, none⟩, 1, [⟨⟨0, [], [nX]⟩, none, 0, some ⟨b25, 0, none⟩, 1⟩]⟩] hp (by simp [maxLen]) 0; rw [show throughV (List.map PatC.pl [⟨some ⟨b27, 0, none⟩, 1, [⟨⟨0, [], [nX]⟩, none, 0, some ⟨b25, 0, none⟩, 1⟩]⟩]) 0 = _ from nex_thr, show throughF (List.map PatC.pl [⟨some ⟨b27, 0, none⟩, 1, [⟨⟨0, [], [nX]⟩, none, 0, some ⟨b25, 0, none⟩, 1⟩]⟩]) 0 = _ from nex_thrF] at hc; exact hc) rfl rfl rfl ?_
  refine gop (y_move (v := .tuple #[.int _ _, .int _ _, .agg #[_, _]]) rfl) rfl rfl rfl ?_
  refine gop (y_extract (v := .int _ _) rfl rfl) rfl rfl rfl ?_
  refine gop (y_extract (v := .int _ _) rfl rfl) rfl rfl rfl ?_
  refine gop (y_extract (v := .agg #[_, _]) rfl rfl) rfl rfl rfl ?_
  refine gop_alloc (cs := #[.int .i64 0, .int .i64 0]) Tryz.zeroValue33 rfl rfl (fun b7 hb7 => ?_)
  refine gop (y_assign (v := .int _ _) rfl) rfl rfl rfl ?_
  refine gop (y_assign (v := .int _ _) rfl) rfl rfl rfl ?_
  refine gop_store 7 (v := .agg #[_, _]) (cs' := #[_, _]) rfl rfl Tryz.sizeOf33 rfl rfl rfl rfl (Nat.le_of_ble_eq_true rfl) rfl rfl ?_
  refine gops_nil ?_
  refine hN4 _ _ ?_
  refine gT [box b16 _, box b18 _, seal_ _ _, box b4 _, box b25 _, box b27 _, box b29 _, box b7 _] rfl ?_
  refine gfrom [(2, .slice _ _ _), (4, .pointer _), (5, .int _ _), (6, .int _ _), (7, .pointer _)] ⟨rfl, rfl, rfl, rfl, rfl, trivial⟩ fun σ => ?_
  refine gseq fun N5 hN5 => ?_
  refine greg ?_
  refine gop (y_build (vs := []) (cells := #[.slice none 0 0]) rfl bd61_) rfl rfl rfl ?_
  refine gop_lit (vs := [.string _]) (cells := #[_]) Tryz.underlying22 Tryz.sizeOf9 Tryz.zeroValue9 rfl (by decide) (by decide) rfl rfl rfl rfl (fun b36 hb36 => ?_)
  refine gop_got (fun v T' => ∃ lo u, v = .tuple #[u, fv ⟨0, 0⟩] ∧ w.heap.size ≤ lo ∧ T' = [rowl apprCells lo 70 3 (u) ([⟨1, xA, -1⟩])]) (e_call (vs := [.agg #[_], _, .slice (some _) _ _]) Tryz.func26 rfl (by kernel_rfl) rfl) (fun w hM => by have h0 : TreeR w 0 none 0 [] := ⟨Rdl.nil, fun _ h => (by cases h), ⟨Nat.le_refl _, Nat.zero_le _, fun _ => rfl, by decide⟩⟩; have hp : Rdl w 0 1 strCells (some ⟨b36, 0, none⟩) [xA] := ((Rdl.of_box 8 (f := strCells) (fun _ => rfl) hM rfl rfl).mono (Nat.zero_le _)); have hc : Calls Tryz.prog 26 #[.agg #[.slice none 0 0], .int .i64 1, .slice (some ⟨b36, 0, none⟩) 1 1] w fun e w' => ∃ v T', e = .returned (.tuple #[v, fv (approveF [] 1 [xA])]) ∧ T' = [rowl apprCells w.heap.size 70 3 (v) (approveV [] 1 [xA])] ∧ Mem w T' w' := approve_any w none 0 [] h0 1 _ 1 [xA] hp (Nat.le_refl _) (by simp [maxLen]); rw [nex_app, nex_apl] at hc; exact hc.mono fun _ _ ⟨v, T1, h1, h2, h3⟩ => ⟨_, T1, h1, ⟨_, v, rfl, hM.low.size, h2⟩, h3⟩) rfl rfl rfl ?_
  rintro _ _ ⟨lo37, u37, rfl, hlo37, rfl⟩
  refine gops_fact (fun w hM => row_form (hM.ok _ (List.mem_of_getElem? (i := 9) rfl))) ?_
  rintro ⟨A37, c37, rfl, hc37, hm37, hn37⟩
  refine gop (y_move (v := .tuple #[.slice A37 _ c37, .agg #[_, _]]) rfl) rfl rfl rfl ?_
  refine gop (y_extract (v := .slice _ _ _) rfl rfl) rfl rfl rfl ?_
  refine gop (y_extract (v := .agg #[_, _]) rfl rfl) rfl rfl rfl ?_
  refine gop_alloc (cs := #[.int .i64 0, .int .i64 0]) Tryz.zeroValue33 rfl rfl (fun b9 hb9 => ?_)
  refine gop (y_assign (v := .slice _ _ _) rfl) rfl rfl rfl ?_
  refine gop_store 10 (v := .agg #[_, _]) (cs' := #[_, _]) rfl rfl Tryz.sizeOf33 rfl rfl rfl rfl (Nat.le_of_ble_eq_true rfl) rfl rfl ?_
  refine gops_nil ?_
  refine hN5 _ _ ?_
  refine gT [box b16 _, box b18 _, seal_ _ _, box b4 _, box b25 _, box b27 _, box b29 _, box b7 _, box b36 _, rowl _ _ _ _ _ _, box b9 _] rfl ?_
  refine gfrom [(2, .slice _ _ _), (4, .pointer _), (5, .int _ _), (6, .int _ _), (7, .pointer _), (8, .slice _ _ _), (9, .pointer _)] ⟨rfl, rfl, rfl, rfl, rfl, rfl, rfl, trivial⟩ fun σ => ?_
  refine gseq fun N6 hN6 => ?_
  refine greg ?_
  refine gop_new (fun lo ws v => ∃ v1, v = .tuple #[.agg #[v1], fv ⟨0, 0⟩] ∧ NewL 4 pnCells (parR nOwn).2 lo ws v1) (e_call (vs := [_]) Tryz.func27 rfl (by kernel_rfl) rfl) (fun w hM => by have hc := polParse_any w nOwn (hL.base hM) (by decide); rw [nex_par] at hc; exact hc.mono fun _ _ ⟨v1, h1, h2, h3⟩ => ⟨_, h1, h2, v1, rfl, h3⟩) rfl rfl rfl ?_
  rintro _ lo41 ws41 hlo41 ⟨_, rfl, A41, c41, rfl, hcc41, hcm41, hr41⟩
  refine gop (y_move (v := .tuple #[.agg #[.slice _ _ _], .agg #[_, _]]) rfl) rfl rfl rfl ?_
  refine gop (y_extract (v := .agg #[_]) rfl rfl) rfl rfl rfl ?_
  refine gop (y_extract (v := .agg #[_, _]) rfl rfl) rfl rfl rfl ?_
  refine gop_alloc (cs := #[.slice none 0 0]) Tryz.zeroValue43 rfl rfl (fun b10 hb10 => ?_)
  refine gop_alloc (cs := #[.int .i64 0, .int .i64 0]) Tryz.zeroValue33 rfl rfl (fun b11 hb11 => ?_)
  refine gop_store 12 (v := .agg #[_]) (cs' := #[_]) rfl rfl Tryz.sizeOf43 rfl rfl rfl rfl (Nat.le_of_ble_eq_true rfl) rfl rfl ?_
  refine gop_store 13 (v := .agg #[_, _]) (cs' := #[_, _]) rfl rfl Tryz.sizeOf33 rfl rfl rfl rfl (Nat.le_of_ble_eq_true rfl) rfl rfl ?_
  refine gops_nil ?_
  refine hN6 _ _ ?_
  refine gT [box b16 _, box b18 _, seal_ _ _, box b4 _, box b25 _, box b27 _, box b29 _, box b7 _, box b36 _, rowl _ _ _ _ _ _, box b9 _, seal_ _ _, box b10 _, box b11 _] rfl ?_
  refine gfrom [(2, .slice _ _ _), (4, .pointer _), (5, .int _ _), (6, .int _ _), (7, .pointer _), (8, .slice _ _ _), (9, .pointer _), (10, .pointer _), (11, .pointer _)] ⟨rfl, rfl, rfl, rfl, rfl, rfl, rfl, rfl, rfl, trivial⟩ fun σ => ?_
  refine gseq fun N7 hN7 => ?_
  refine greg ?_
  refine gop (y_build (vs := [(2, _)]) (cells := #[.int .i64 0, .int .i64 0, _]) rfl (bd51_2 _)) rfl rfl rfl ?_
  refine gop_lit (vs := [.agg #[_, _, _]]) (cells := #[_, _, _]) Tryz.underlying49 Tryz.sizeOf51 Tryz.zeroValue51 rfl (by decide) (by decide) rfl rfl rfl rfl (fun b46 hb46 => ?_)
  refine gop_lit (vs := [.bool _]) (cells := #[_]) Tryz.underlying46 Tryz.sizeOf4 Tryz.zeroValue4 rfl (by decide) (by decide) rfl rfl rfl rfl (fun b47 hb47 => ?_)
  refine gop_pure (e_call (vs := [.slice (some _) _ _, .slice (some _) _ _, _]) Tryz.func10 rfl (by kernel_rfl) rfl) (fun w hM => by have hc := score_any w (some ⟨b46, 0, none⟩) 1 [⟨0, 0, 2⟩] (some ⟨b47, 0, none⟩) 1 [false] ((Rdl.of_box 14 (f := voteCells) (fun _ => rfl) hM rfl rfl).mono (Nat.zero_le _)) ((Rdl.of_box 15 (f := boolCells) (fun _ => rfl) hM rfl rfl).mono (Nat.zero_le _)) (by simp [maxLen]) (by simp [maxLen]) (Nat.le_refl _) 0; rw [nex_sc, nex_sv, nex_sf] at hc; exact hc) rfl rfl rfl ?_
  refine gop (y_move (v := .tuple #[.int _ _, .bool _, .agg #[_, _]]) rfl) rfl rfl rfl ?_
  refine gop (y_extract (v := .int _ _) rfl rfl) rfl rfl rfl ?_
  refine gop (y_extract (v := .bool _) rfl rfl) rfl rfl rfl ?_
  refine gop (y_extract (v := .agg #[_, _]) rfl rfl) rfl rfl rfl ?_
  refine gop_alloc (cs := #[.int .i64 0, .int .i64 0]) Tryz.zeroValue33 rfl rfl (fun b14 hb14 => ?_)
  refine gop (y_assign (v := .int _ _) rfl) rfl rfl rfl ?_
  refine gop (y_assign (v := .bool _) rfl) rfl rfl rfl ?_
  refine gop_store 16 (v := .agg #[_, _]) (cs' := #[_, _]) rfl rfl Tryz.sizeOf33 rfl rfl rfl rfl (Nat.le_of_ble_eq_true rfl) rfl rfl ?_
  refine gops_nil ?_
  refine hN7 _ _ ?_
  refine gT [box b16 _, box b18 _, seal_ _ _, box b4 _, box b25 _, box b27 _, box b29 _, box b7 _, box b36 _, rowl _ _ _ _ _ _, box b9 _, seal_ _ _, box b10 _, box b11 _, box b46 _, box b47 _, box b14 _] rfl ?_
  refine gfrom [(2, .slice _ _ _), (4, .pointer _), (5, .int _ _), (6, .int _ _), (7, .pointer _), (8, .slice _ _ _), (9, .pointer _), (10, .pointer _), (11, .pointer _), (12, .int _ _), (13, .bool _), (14, .pointer _)] ⟨rfl, rfl, rfl, rfl, rfl, rfl, rfl, rfl, rfl, rfl, rfl, rfl, trivial⟩ fun σ => ?_
  refine gseq fun N8 hN8 => ?_
  refine greg ?_
  refine gop (y_fieldAddr_box fa33_0 rfl) rfl rfl rfl ?_
  refine gop (y_load Tryz.isAgg3 rfl (cell_box 3 rfl rfl)) rfl rfl rfl ?_
  refine gop (y_eql rfl rfl) rfl rfl rfl ?_
  refine gop (y_move (v := .bool _) rfl) rfl rfl rfl ?_
  refine gop_if (want := true) rfl rfl rfl rfl rfl rfl (fun hg55 => ?_) (fun hg55 => ?_)
  · 
    have hg55d := of_decide_eq_true hg55
    refine gop (y_bare (y_fieldAddr_box fa33_0 rfl)) rfl rfl rfl ?_
    refine gop_on rfl rfl rfl rfl hg55 ?_
    refine gop (y_bare (y_load Tryz.isAgg3 rfl (cell_box 7 rfl rfl))) rfl rfl rfl ?_
    refine gop_on rfl rfl rfl rfl hg55 ?_
    refine gop (y_bare (y_eql rfl rfl)) rfl rfl rfl ?_
    refine gop (y_pick_t (v := .bool _) rfl hg55 rfl) rfl rfl rfl ?_
    refine gop (y_move (v := .bool _) rfl) rfl rfl rfl ?_
    refine gop_if (want := true) rfl rfl rfl rfl rfl rfl (fun hg60 => ?_) (fun hg60 => ?_)
    · 
      have hg60d := of_decide_eq_true hg60
      refine gop (y_bare (y_fieldAddr_box fa33_0 rfl)) rfl rfl rfl ?_
      refine gop_on rfl rfl rfl rfl hg60 ?_
      refine gop (y_bare (y_load Tryz.isAgg3 rfl (cell_box 10 rfl rfl))) rfl rfl rfl ?_
      refine gop_on rfl rfl rfl rfl hg60 ?_
      refine gop (y_bare (y_eql rfl rfl)) rfl rfl rfl ?_
      refine gop (y_pick_t (v := .bool _) rfl hg60 rfl) rfl rfl rfl ?_
      refine gop (y_move (v := .bool _) rfl) rfl rfl rfl ?_
      refine gop_if (want := true) rfl rfl rfl rfl rfl rfl (fun hg65 => ?_) (fun hg65 => ?_)
      · 
        have hg65d := of_decide_eq_true hg65
        refine gop (y_bare (y_fieldAddr_box fa33_0 rfl)) rfl rfl rfl ?_
        refine gop_on rfl rfl rfl rfl hg65 ?_
        refine gop (y_bare (y_load Tryz.isAgg3 rfl (cell_box 13 rfl rfl))) rfl rfl rfl ?_
        refine gop_on rfl rfl rfl rfl hg65 ?_
        refine gop (y_bare (y_eql rfl rfl)) rfl rfl rfl ?_
        refine gop (y_pick_t (v := .bool _) rfl hg65 rfl) rfl rfl rfl ?_
        refine gop (y_move (v := .bool _) rfl) rfl rfl rfl ?_
        refine gop_if (want := true) rfl rfl rfl rfl rfl rfl (fun hg70 => ?_) (fun hg70 => ?_)
        · 
          have hg70d := of_decide_eq_true hg70
          refine gop (y_bare (y_fieldAddr_box fa33_0 rfl)) rfl rfl rfl ?_
          refine gop_on rfl rfl rfl rfl hg70 ?_
          refine gop (y_bare (y_load Tryz.isAgg3 rfl (cell_box 16 rfl rfl))) rfl rfl rfl ?_
          refine gop_on rfl rfl rfl rfl hg70 ?_
          refine gop (y_bare (y_eql rfl rfl)) rfl rfl rfl ?_
          refine gop (y_pick_t (v := .bool _) rfl hg70 rfl) rfl rfl rfl ?_
          refine gop (y_move (v := .bool _) rfl) rfl rfl rfl ?_
          refine gop_if (want := true) rfl rfl rfl rfl rfl rfl (fun hg75 => ?_) (fun hg75 => ?_)
          · 
            have hg75d := of_decide_eq_true hg75
            refine gop (y_bare (y_move (v := .slice _ _ _) rfl)) rfl rfl rfl ?_
            refine gop_on rfl rfl rfl rfl hg75 ?_
            refine gop (y_bare (y_len Tryz.underlying31 rfl)) rfl rfl rfl ?_
            refine gop_on rfl rfl rfl rfl hg75 ?_
            refine gop (y_bare (y_eql rfl rfl)) rfl rfl rfl ?_
            refine gop (y_pick_t (v := .bool _) rfl hg75 rfl) rfl rfl rfl ?_
            refine gop (y_move (v := .bool _) rfl) rfl rfl rfl ?_
            refine gop_if (want := true) rfl rfl rfl rfl rfl rfl (fun hg80 => ?_) (fun hg80 => ?_)
            · 
              have hg80d := of_decide_eq_true hg80
              refine gop (y_bare (y_move (v := .int _ _) rfl)) rfl rfl rfl ?_
              refine gop_on rfl rfl rfl rfl hg80 ?_
              refine gop (y_bare (y_eql rfl rfl)) rfl rfl rfl ?_
              refine gop (y_pick_t (v := .bool _) rfl hg80 rfl) rfl rfl rfl ?_
              refine gop (y_move (v := .bool _) rfl) rfl rfl rfl ?_
              refine gop_if (want := true) rfl rfl rfl rfl rfl rfl (fun hg84 => ?_) (fun hg84 => ?_)
              · 
                have hg84d := of_decide_eq_true hg84
                refine gop (y_bare (y_move (v := .int _ _) rfl)) rfl rfl rfl ?_
                refine gop_on rfl rfl rfl rfl hg84 ?_
                refine gop (y_bare (y_eql rfl rfl)) rfl rfl rfl ?_
                refine gop (y_pick_t (v := .bool _) rfl hg84 rfl) rfl rfl rfl ?_
                refine gop (y_move (v := .bool _) rfl) rfl rfl rfl ?_
                refine gop_if (want := true) rfl rfl rfl rfl rfl rfl (fun hg88 => ?_) (fun hg88 => ?_)
                · 
                  have hg88d := of_decide_eq_true hg88
                  refine gop (y_bare (y_move (v := .slice _ _ _) rfl)) rfl rfl rfl ?_
                  refine gop_on rfl rfl rfl rfl hg88 ?_
                  refine gop (y_bare (y_len Tryz.underlying58 rfl)) rfl rfl rfl ?_
                  refine gop_on rfl rfl rfl rfl hg88 ?_
                  refine gop (y_bare (y_eql rfl rfl)) rfl rfl rfl ?_
                  refine gop (y_pick_t (v := .bool _) rfl hg88 rfl) rfl rfl rfl ?_
                  refine gop (y_move (v := .bool _) rfl) rfl rfl rfl ?_
                  refine gop_if (want := true) rfl rfl rfl rfl rfl rfl (fun hg93 => ?_) (fun hg93 => ?_)
                  · 
                    have hg93d := of_decide_eq_true hg93
                    refine gop (y_bare (y_fieldAddr_box fa43_0 rfl)) rfl rfl rfl ?_
                    refine gop_on rfl rfl rfl rfl hg93 ?_
                    refine gop (y_bare (y_load Tryz.isAgg41 rfl (cell_box 12 rfl rfl))) rfl rfl rfl ?_
                    refine gop_on rfl rfl rfl rfl hg93 ?_
                    refine gop (y_bare (y_len Tryz.underlying41 rfl)) rfl rfl rfl ?_
                    refine gop_on rfl rfl rfl rfl hg93 ?_
                    refine gop (y_bare (y_eql rfl rfl)) rfl rfl rfl ?_
                    refine gop (y_pick_t (v := .bool _) rfl hg93 rfl) rfl rfl rfl ?_
                    refine gop (y_move (v := .bool _) rfl) rfl rfl rfl ?_
                    refine gop_if (want := true) rfl rfl rfl rfl rfl rfl (fun hg99 => ?_) (fun hg99 => ?_)
                    · 
                      have hg99d := of_decide_eq_true hg99
                      refine gop (y_bare (y_move (v := .int _ _) rfl)) rfl rfl rfl ?_
                      refine gop_on rfl rfl rfl rfl hg99 ?_
                      refine gop (y_bare (y_eql rfl rfl)) rfl rfl rfl ?_
                      refine gop (y_pick_t (v := .bool _) rfl hg99 rfl) rfl rfl rfl ?_
                      refine gop (y_move (v := .bool _) rfl) rfl rfl rfl ?_
                      refine gop_if (want := true) rfl rfl rfl rfl rfl rfl (fun hg103 => ?_) (fun hg103 => ?_)
                      · 
                        have hg103d := of_decide_eq_true hg103
                        refine gop (y_bare (y_move (v := .bool _) rfl)) rfl rfl rfl ?_
                        refine gop_on rfl rfl rfl rfl hg103 ?_
                        refine gop (y_bare (y_not rfl)) rfl rfl rfl ?_
                        refine gop (y_pick_t (v := .bool _) rfl hg103 rfl) rfl rfl rfl ?_
                        refine gop (y_assign (v := .bool _) rfl) rfl rfl rfl ?_
                        refine gops_nil ?_
                        refine hN8 _ _ ?_
                        refine gfrom [(0, .bool _)] ⟨rfl, trivial⟩ fun σ => ?_
                        refine gret fun w1 hM => ?_
                        refine ⟨_, res1 rfl (rt (v := .bool _) rfl), ?_⟩
                        exact ⟨rfl, hM.low⟩
                      · 
                         exact absurd hg103 (by first | decide | simp)
                    · 
                       rw [nex_parl] at hg99; exact absurd hg99 (by decide)
                  · 
                     exact absurd hg93 (by first | decide | simp)
                · 
                   exact absurd hg88 (by first | decide | simp)
              · 
                 exact absurd hg84 (by first | decide | simp)
            · 
               exact absurd hg80 (by first | decide | simp)
          · 
             exact absurd hg75 (by first | decide | simp)
        · 
           exact absurd hg70 (by first | decide | simp)
      · 
         exact absurd hg65 (by first | decide | simp)
    · 
       exact absurd hg60 (by first | decide | simp)
  · 
     exact absurd hg55 (by first | decide | simp)
end Go.Proofs.YtbkameioedmlkaaGreatDoor
namespace Go.Cf
open Go.RowKit
def Tr.val (F : PFacts) : Tr → Bool
  | .leaf k n => evN F ⟨k, n, 0, 0⟩ []
  | .neg t => !t.val F
  | .bin k a b => if k = 6 then a.val F && b.val F else a.val F || b.val F
theorem ev_leaf {F : PFacts} {n : PN} {out : List Bool} (h1 : 1 ≤ n.kind) (h : n.kind < 5) : evN F n out = evN F n [] := by
  unfold evN
  (repeat' split) <;> first | rfl | (exfalso; omega)
theorem val_at {F : PFacts} {l : List PN} : ∀ (t : Tr) (i : Nat), t.ok → At l i t → valAt (evN F) l i = t.val F
  | .leaf k n, i, ho, h => by
    obtain ⟨h1, h2, _⟩ := ho
    rw [valAt, h.leaf, ev_leaf (by simp only; omega) (by simp only; omega)]; rfl
  | .neg t, i, ho, h => by
    obtain ⟨h1, h2, h3⟩ := h.neg
    rw [valAt, h2, ev5 rfl]
    simp only
    rw [show (i : Int) - 1 = ((i - 1 : Nat) : Int) by omega, gB_fold (by omega), val_at t _ ho h3]; rfl
  | .bin k a b, i, ho, h => by
    obtain ⟨m, h0, h1, h2, h3, h4⟩ := h.bin
    rw [valAt, h2, Tr.val]
    have e1 : gB (foldTo (evN F) l i) (m : Int) = a.val F := by rw [gB_fold (by omega), val_at a _ ho.2.1 h3]
    have e2 : gB (foldTo (evN F) l i) ((i : Int) - 1) = b.val F := by rw [show (i : Int) - 1 = ((i - 1 : Nat) : Int) by omega, gB_fold (by omega), val_at b _ ho.2.2 h4]
    rcases ho.1 with rfl | rfl
    · rw [ev6 rfl, if_pos rfl]; simp only [e1, e2]
    · rw [ev7 rfl, if_neg (by decide)]; simp only [e1, e2]
theorem evalV_tree {l : List PN} {F : PFacts} (h : polF l = ⟨0, 0⟩) (h2 : ¬ factsBad F) : evalV l F = (treeOf l).val F := by
  have ht := tree_of h
  rw [(evalF_ok h h2).2]; exact val_at _ _ ht.ok ht.at_
def NoNeg : Tr → Prop
  | .leaf _ _ => True
  | .neg _ => False
  | .bin _ a b => NoNeg a ∧ NoNeg b
theorem noNeg_of : ∀ (t : Tr) (off : Nat), (∀ n ∈ post t off, n.kind ≠ 5) → NoNeg t
  | .leaf _ _, _, _ => trivial
  | .neg t, off, h => (h ⟨5, 0, ((off + t.size : Nat) : Int) - 1, 0⟩ (by rw [post]; simp)) rfl
  | .bin k a b, off, h => ⟨noNeg_of a off fun n hn => h n (by rw [post]; simp [hn]), noNeg_of b (off + a.size) fun n hn => h n (by rw [post]; simp [hn])⟩
end Go.Cf
namespace Go.Cf
open Go.RowKit
abbrev allF : PFacts := ⟨16, true, true, 255⟩
theorem allF_ok : ¬ factsBad allF := by decide
theorem bit_all {n : Int} (h0 : 0 ≤ n) (h7 : n ≤ 7) : bitU 255 n = true := by
  have h : n = 0 ∨ n = 1 ∨ n = 2 ∨ n = 3 ∨ n = 4 ∨ n = 5 ∨ n = 6 ∨ n = 7 := by omega
  rcases h with rfl | rfl | rfl | rfl | rfl | rfl | rfl | rfl <;> decide
theorem val_all : ∀ t : Tr, NoNeg t → t.ok → t.val allF = true
  | .leaf k n, _, ho => by
    obtain ⟨h1, h2, h3, h4⟩ := ho
    rw [Tr.val]
    have hk : k = 1 ∨ k = 2 ∨ k = 3 ∨ k = 4 := by omega
    rcases hk with rfl | rfl | rfl | rfl
    · rw [ev1 rfl]
      have h5 : n ≤ 8 := h4
      exact decide_eq_true (show n ≤ 16 by omega)
    · rw [ev2 rfl]
    · rw [ev3 rfl]
    · rw [ev4 rfl]
      exact bit_all h3 h4
  | .bin k a b, hn, ho => by
    rw [Tr.val, val_all a hn.1 ho.2.1, val_all b hn.2 ho.2.2]
    split <;> rfl
theorem law21_pol {l : List PN} {F : PFacts} (hn : ∀ i (h : i < l.length), l[i].kind ≠ 5) (h1 : (evalF l F).code = 0) : evalF l allF = ⟨0, 0⟩ ∧ evalV l allF = true := by
  have hp : polF l = ⟨0, 0⟩ := by
    by_cases h0 : polF l = ⟨0, 0⟩
    · exact h0
    · rw [(evalF_bad h0).1] at h1
      exact polF_code (fun h9 => h9 h1)
  have ht := tree_of hp
  refine ⟨(evalF_ok hp allF_ok).1, ?_⟩
  rw [evalV_tree hp allF_ok]
  refine val_all _ (noNeg_of _ 0 fun n hnm => ?_) ht.ok
  rw [← ht.eq] at hnm
  obtain ⟨i, hi, rfl⟩ := List.getElem_of_mem hnm
  exact hn i hi
def votesTo (r : Int) (k : Nat) : List Vote := (List.range k).map fun (u : Nat) => ⟨(u : Int), r, 2⟩
theorem votesTo_succ (r : Int) (k : Nat) : votesTo r (k + 1) = votesTo r k ++ [⟨(k : Int), r, 2⟩] := by
  unfold votesTo; rw [List.range_succ, List.map_append]; rfl
theorem votesTo_len (r : Int) (k : Nat) : (votesTo r k).length = k := by simp [votesTo]
theorem step_all (tr : List Bool) (m : Nat) (out : List (Int × Bool)) (u : Nat) : Votes.stepSt tr m out ⟨(u : Int), (m : Int), 2⟩ = out.set u (2, true) := by
  unfold Votes.stepSt
  rw [if_neg (show ¬ (m : Int) < (m : Int) by omega)]
  have h : Votes.cnt tr m ⟨(u : Int), (m : Int), 2⟩ = true := by
    unfold Votes.cnt
    simp
  rw [h]; rfl
theorem states_all (tr : List Bool) (m : Nat) : Votes.statesOf (votesTo (m : Int) 8) tr m = List.replicate 8 (2, true) := by
  unfold Votes.statesOf
  have h : votesTo (m : Int) 8 = [⟨((0 : Nat) : Int), m, 2⟩, ⟨((1 : Nat) : Int), m, 2⟩, ⟨((2 : Nat) : Int), m, 2⟩, ⟨((3 : Nat) : Int), m, 2⟩, ⟨((4 : Nat) : Int), m, 2⟩, ⟨((5 : Nat) : Int), m, 2⟩, ⟨((6 : Nat) : Int), m, 2⟩, ⟨((7 : Nat) : Int), m, 2⟩] := rfl
  rw [h]
  simp only [List.foldl_cons, List.foldl_nil, step_all]
  rfl
theorem all_votes {tr : List Bool} (h : (Votes.stateF (votesTo ((tr.length : Int) - 1) 8) tr ((tr.length : Int) - 1)).code = 0) :
    Votes.scoreN (votesTo ((tr.length : Int) - 1) 8) tr ((tr.length : Int) - 1) = 16 ∧ Votes.scoreV (votesTo ((tr.length : Int) - 1) 8) tr ((tr.length : Int) - 1) = false := by
  have h0 := Votes.stateF_code h
  obtain ⟨-, h1, -⟩ := Votes.stateF_ok _ _ _ h0
  obtain ⟨m, hm⟩ : ∃ m : Nat, (tr.length : Int) - 1 = (m : Int) := ⟨((tr.length : Int) - 1).toNat, by omega⟩
  rw [hm] at h0 ⊢
  have hc : Votes.curL (votesTo (m : Int) 8) tr (m : Int) = List.replicate 8 2 := by
    rw [Votes.curL, if_pos h0, Int.toNat_natCast, states_all]; rfl
  unfold Votes.scoreN Votes.scoreV
  rw [hc]
  exact ⟨by decide, by decide⟩
end Go.Cf
