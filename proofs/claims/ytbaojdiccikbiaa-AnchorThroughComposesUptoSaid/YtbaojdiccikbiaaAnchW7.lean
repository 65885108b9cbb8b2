/- walks, printed by program -/
import Derived.Test.YtbaojdiccikbiaaPatchE
namespace Go.Proofs.Ytbaojdiccikbiaa
open Go.RowKit Go.Cf
set_option maxRecDepth 10000

theorem el25 : Elem Try.prog 25 1 24 := elem_of (z := .agg #[.slice none 0 0]) (by kernel_rfl) rfl (by decide)

set_option maxHeartbeats 1000000 in
theorem law7_any (w : World) (A : Option Addr) (c : Nat) (ps : List PatC) (hp : PatsR w 0 A ps) (B : Option Addr) (d : Nat) (qs : List PatC) (hq : PatsR w 0 B qs) (hpl : ps.length ≤ 1048576) (hql : qs.length ≤ 1048576) (hA : A = none → c = 0) (hB : B = none → d = 0) (line : Int) :
    Calls Try.prog 4 #[.slice A ps.length c, .slice B qs.length d, .int .i64 line] w fun e w' => e = .returned (.bool true) ∧ Below w.heap.size w w' := by
  have hmx : maxLen = 9223372036854775807 := rfl
  have hle1 := throughV_le (ps.map PatC.pl) line
  have hle2 := throughV_le (qs.map PatC.pl) (throughV (ps.map PatC.pl) line).1
  simp only [List.length_map] at hle1 hle2
  refine gcalls Try.func4 rfl Try.ntmps4 (Nat.le_of_ble_eq_true rfl) ?_
  refine gfrom [(0, .slice _ _ _), (1, .slice _ _ _), (2, .int _ _)] ⟨rfl, rfl, rfl, trivial⟩ fun σ => ?_
  refine gseq fun N1 hN1 => ?_
  refine greg ?_
  refine gop (y_assign (v := .bool _) rfl) rfl rfl rfl ?_
  refine gops_nil ?_
  refine hN1 _ _ ?_
  refine gfrom [(0, .slice _ _ _), (1, .slice _ _ _), (2, .int _ _)] ⟨rfl, rfl, rfl, trivial⟩ fun σ => ?_
  refine gseq fun N2 hN2 => ?_
  refine greg ?_
  refine gop (y_move (v := .slice _ _ _) rfl) rfl rfl rfl ?_
  refine gop (y_move (v := .int _ _) rfl) rfl rfl rfl ?_
  refine gop_pure (e_call (vs := [.slice _ _ _, .int _ _]) Try.func13 rfl (by kernel_rfl) rfl) (fun w hM => through_any w _ _ ps (PatsR.lasts.base hp hM) (by omega) line) rfl rfl rfl ?_
  refine gop (y_move (v := .tuple #[.int _ _, .int _ _, .agg #[_, _]]) rfl) rfl rfl rfl ?_
  refine gop (y_extract (v := .int _ _) rfl rfl) rfl rfl rfl ?_
  refine gop (y_extract (v := .int _ _) rfl rfl) rfl rfl rfl ?_
  refine gop (y_extract (v := .agg #[_, _]) rfl rfl) rfl rfl rfl ?_
  refine gop_alloc (cs := #[.int .i64 0, .int .i64 0]) Try.zeroValue27 rfl rfl (fun b9 hb9 => ?_)
  refine gop (y_assign (v := .int _ _) rfl) rfl rfl rfl ?_
  refine gop (y_assign (v := .int _ _) rfl) rfl rfl rfl ?_
  refine gop_store 0 (v := .agg #[_, _]) (cs' := #[_, _]) rfl rfl Try.sizeOf27 rfl rfl rfl rfl (Nat.le_of_ble_eq_true rfl) rfl rfl ?_
  refine gops_nil ?_
  refine hN2 _ _ ?_
  refine gT [box b9 _] rfl ?_
  refine gfrom [(0, .slice _ _ _), (1, .slice _ _ _), (2, .int _ _), (7, .int _ _), (8, .int _ _), (9, .pointer _)] ⟨rfl, rfl, rfl, rfl, rfl, rfl, trivial⟩ fun σ => ?_
  refine gseq fun N3 hN3 => ?_
  refine greg ?_
  refine gop (y_move (v := .slice _ _ _) rfl) rfl rfl rfl ?_
  refine gop (y_move (v := .int _ _) rfl) rfl rfl rfl ?_
  refine gop_pure (e_call (vs := [.slice _ _ _, .int _ _]) Try.func13 rfl (by kernel_rfl) rfl) (fun w hM => through_any w _ _ qs (PatsR.lasts.base hq hM) (by omega) (throughV (ps.map PatC.pl) line).1) rfl rfl rfl ?_
  refine gop (y_move (v := .tuple #[.int _ _, .int _ _, .agg #[_, _]]) rfl) rfl rfl rfl ?_
  refine gop (y_extract (v := .int _ _) rfl rfl) rfl rfl rfl ?_
  refine gop (y_extract (v := .int _ _) rfl rfl) rfl rfl rfl ?_
  refine gop (y_extract (v := .agg #[_, _]) rfl rfl) rfl rfl rfl ?_
  refine gop_alloc (cs := #[.int .i64 0, .int .i64 0]) Try.zeroValue27 rfl rfl (fun b12 hb12 => ?_)
  refine gop (y_assign (v := .int _ _) rfl) rfl rfl rfl ?_
  refine gop (y_assign (v := .int _ _) rfl) rfl rfl rfl ?_
  refine gop_store 1 (v := .agg #[_, _]) (cs' := #[_, _]) rfl rfl Try.sizeOf27 rfl rfl rfl rfl (Nat.le_of_ble_eq_true rfl) rfl rfl ?_
  refine gops_nil ?_
  refine hN3 _ _ ?_
  refine gT [box b9 _, box b12 _] rfl ?_
  refine gfrom [(0, .slice _ _ _), (1, .slice _ _ _), (2, .int _ _), (7, .int _ _), (8, .int _ _), (9, .pointer _), (10, .int _ _), (11, .int _ _), (12, .pointer _)] ⟨rfl, rfl, rfl, rfl, rfl, rfl, rfl, rfl, rfl, trivial⟩ fun σ => ?_
  refine gseq fun N4 hN4 => ?_
  refine greg ?_
  refine gop (y_move (v := .slice _ _ _) rfl) rfl rfl rfl ?_
  refine gops_nilrow patCells 25 1 ?_
  refine gop_append 2 (f := patCells) (l2 := ps) Try.underlying22 el25 wide_pat (v := .slice none 0 0) rfl rfl rfl rfl hA (by simp; omega) (by simp; omega) (fun w hM => (hp.rd.base hM).src (fun _ => rfl)) rfl (fun v32 => ?_)
  refine gop (y_move (v := .slice _ _ _) rfl) rfl rfl rfl ?_
  refine gop_append 2 (f := patCells) (l2 := qs) Try.underlying22 el25 wide_pat (v := v32) rfl rfl rfl rfl hB (by simp; omega) (by simp; omega) (fun w hM => (hq.rd.base hM).src (fun _ => rfl)) rfl (fun v34 => ?_)
  refine gops_fact (fun w hM => own_form (hM.own 2 rfl)) ?_
  rintro ⟨A34, c34, rfl, hc34, hm34⟩
  refine gop (y_move (v := .int _ _) rfl) rfl rfl rfl ?_
  refine gop_pure (e_call (vs := [.slice A34 _ c34, .int _ _]) Try.func13 rfl (by kernel_rfl) rfl) (fun w hM => by have hr : PatsR w 0 A34 (ps ++ qs) := ⟨(Rdl.of_own (f := patCells) (fun _ => rfl) (hM.own 2 rfl)).mono (Nat.zero_le _), fun p hpp => (List.mem_append.1 hpp).elim (fun h => PatR.lasts.base (hp.each p h) hM) (fun h => PatR.lasts.base (hq.each p h) hM)⟩; exact through_any w A34 c34 (ps ++ qs) hr (by simp; omega) line) rfl rfl rfl ?_
  refine gop (y_move (v := .tuple #[.int _ _, .int _ _, .agg #[_, _]]) rfl) rfl rfl rfl ?_
  refine gop (y_extract (v := .int _ _) rfl rfl) rfl rfl rfl ?_
  refine gop (y_extract (v := .int _ _) rfl rfl) rfl rfl rfl ?_
  refine gop (y_extract (v := .agg #[_, _]) rfl rfl) rfl rfl rfl ?_
  refine gop_alloc (cs := #[.int .i64 0, .int .i64 0]) Try.zeroValue27 rfl rfl (fun b15 hb15 => ?_)
  refine gop (y_assign (v := .int _ _) rfl) rfl rfl rfl ?_
  refine gop (y_assign (v := .int _ _) rfl) rfl rfl rfl ?_
  refine gop_store 3 (v := .agg #[_, _]) (cs' := #[_, _]) rfl rfl Try.sizeOf27 rfl rfl rfl rfl (Nat.le_of_ble_eq_true rfl) rfl rfl ?_
  refine gops_nil ?_
  refine hN4 _ _ ?_
  refine gT [box b9 _, box b12 _, rowl _ _ _ _ _ _, box b15 _] rfl ?_
  refine gfrom [(0, .slice _ _ _), (7, .int _ _), (8, .int _ _), (9, .pointer _), (10, .int _ _), (11, .int _ _), (12, .pointer _), (13, .int _ _), (14, .int _ _), (15, .pointer _)] ⟨rfl, rfl, rfl, rfl, rfl, rfl, rfl, rfl, rfl, rfl, trivial⟩ fun σ => ?_
  refine gseq fun N5 hN5 => ?_
  refine gseq fun N6 hN6 => ?_
  refine greg ?_
  refine gop_pure (e_call (vs := []) Try.func15 rfl (by kernel_rfl) rfl) (fun w hM => anchorExample_any w) rfl rfl rfl ?_
  refine gop (y_not rfl) rfl rfl rfl ?_
  refine gops_nil ?_
  refine hN6 _ _ ?_
  refine gfrom [(0, .slice _ _ _), (7, .int _ _), (8, .int _ _), (9, .pointer _), (10, .int _ _), (11, .int _ _), (12, .pointer _), (13, .int _ _), (14, .int _ _), (15, .pointer _), (41, .bool _)] ⟨rfl, rfl, rfl, rfl, rfl, rfl, rfl, rfl, rfl, rfl, rfl, trivial⟩ fun σ => ?_
  refine gcond (b := _) rfl (fun hc41 => ?_) (fun hc41 => ?_)
  · -- slot 41 t
    simp at hc41
  · -- slot 41 f
    replace hc41 := not_f hc41
    refine gskip ?_
    refine hN5 _ _ ?_
    refine gfrom [(0, .slice _ _ _), (7, .int _ _), (8, .int _ _), (9, .pointer _), (10, .int _ _), (11, .int _ _), (12, .pointer _), (13, .int _ _), (14, .int _ _), (15, .pointer _)] ⟨rfl, rfl, rfl, rfl, rfl, rfl, rfl, rfl, rfl, rfl, trivial⟩ fun σ => ?_
    refine gseq fun N7 hN7 => ?_
    refine gseq fun N8 hN8 => ?_
    refine greg ?_
    refine gop (y_fieldAddr_box fa27_0 rfl) rfl rfl rfl ?_
    refine gop (y_load Try.isAgg3 rfl (cell_box 0 rfl rfl)) rfl rfl rfl ?_
    refine gop (y_neq rfl rfl) rfl rfl rfl ?_
    refine gop (y_move (v := .bool _) rfl) rfl rfl rfl ?_
    refine gop_if (want := false) rfl rfl rfl rfl rfl rfl (fun hg45 => ?_) (fun hg45 => ?_)
    · -- guard 45 on
      have hg45d := Decidable.not_not.1 (of_decide_eq_false hg45)
      refine gop (y_bare (y_fieldAddr_box fa27_0 rfl)) rfl rfl rfl ?_
      refine gop_on rfl rfl rfl rfl hg45 ?_
      refine gop (y_bare (y_load Try.isAgg3 rfl (cell_box 1 rfl rfl))) rfl rfl rfl ?_
      refine gop_on rfl rfl rfl rfl hg45 ?_
      refine gop (y_bare (y_neq rfl rfl)) rfl rfl rfl ?_
      refine gop (y_pick_f (v := .bool _) rfl hg45 rfl) rfl rfl rfl ?_
      refine gop (y_move (v := .bool _) rfl) rfl rfl rfl ?_
      refine gop_if (want := false) rfl rfl rfl rfl rfl rfl (fun hg50 => ?_) (fun hg50 => ?_)
      · -- guard 50 on
        have hg50d := Decidable.not_not.1 (of_decide_eq_false hg50)
        refine gop (y_bare (y_fieldAddr_box fa27_0 rfl)) rfl rfl rfl ?_
        refine gop_on rfl rfl rfl rfl hg50 ?_
        refine gop (y_bare (y_load Try.isAgg3 rfl (cell_box 3 rfl rfl))) rfl rfl rfl ?_
        refine gop_on rfl rfl rfl rfl hg50 ?_
        refine gop (y_bare (y_neq rfl rfl)) rfl rfl rfl ?_
        refine gop (y_pick_f (v := .bool _) rfl hg50 rfl) rfl rfl rfl ?_
        refine gops_nil ?_
        refine hN8 _ _ ?_
        refine gfrom [(0, .slice _ _ _), (7, .int _ _), (8, .int _ _), (10, .int _ _), (11, .int _ _), (13, .int _ _), (14, .int _ _), (54, .bool _)] ⟨rfl, rfl, rfl, rfl, rfl, rfl, rfl, rfl, trivial⟩ fun σ => ?_
        refine gcond (b := _) rfl (fun hc54 => ?_) (fun hc54 => ?_)
        · -- slot 54 t
          replace hc54 := of_decide_eq_true hc54
          refine gseq fun N9 hN9 => ?_
          refine greg ?_
          refine gop (y_assign (v := .bool _) rfl) rfl rfl rfl ?_
          refine gops_nil ?_
          refine hN9 _ _ ?_
          refine gfrom [(6, .bool _)] ⟨rfl, trivial⟩ fun σ => ?_
          refine gret fun w1 hM => ?_
          refine ⟨_, res1 rfl (rt (v := .bool _) rfl), ?_⟩
          exact ⟨rfl, hM.low⟩
        · -- slot 54 f
          replace hc54 := Decidable.not_not.1 (of_decide_eq_false hc54)
          have h1 := throughV_ok hg45d
          have h2 := throughV_ok hg50d
          have h3 := throughV_ok hc54
          have hap := through_append (ps.map PatC.pl) (qs.map PatC.pl) line
          rw [← List.map_append, ← h3, ← h1] at hap
          rw [← h2, List.length_map] at hap
          refine gskip ?_
          refine hN7 _ _ ?_
          refine gfrom [(0, .slice _ _ _), (7, .int _ _), (8, .int _ _), (10, .int _ _), (11, .int _ _), (13, .int _ _), (14, .int _ _)] ⟨rfl, rfl, rfl, rfl, rfl, rfl, rfl, trivial⟩ fun σ => ?_
          refine gseq fun N10 hN10 => ?_
          refine gseq fun N11 hN11 => ?_
          refine greg ?_
          refine gop (y_move (v := .int _ _) rfl) rfl rfl rfl ?_
          refine gop (y_move (v := .slice _ _ _) rfl) rfl rfl rfl ?_
          refine gop (y_len Try.underlying22 rfl) rfl rfl rfl ?_
          refine gop (y_lss rfl rfl) rfl rfl rfl ?_
          refine gops_nil ?_
          refine hN11 _ _ ?_
          refine gfrom [(7, .int _ _), (8, .int _ _), (10, .int _ _), (11, .int _ _), (13, .int _ _), (14, .int _ _), (58, .bool _)] ⟨rfl, rfl, rfl, rfl, rfl, rfl, rfl, trivial⟩ fun σ => ?_
          refine gcond (b := _) rfl (fun hc58 => ?_) (fun hc58 => ?_)
          · -- slot 58 t
            replace hc58 := of_decide_eq_true hc58
            rw [if_neg (by omega)] at hap
            refine gseq fun N12 hN12 => ?_
            refine greg ?_
            refine gop (y_move (v := .int _ _) rfl) rfl rfl rfl ?_
            refine gop (y_move (v := .int _ _) rfl) rfl rfl rfl ?_
            refine gop (y_eql rfl rfl) rfl rfl rfl ?_
            refine gop (y_move (v := .bool _) rfl) rfl rfl rfl ?_
            refine gop_if (want := true) rfl rfl rfl rfl rfl rfl (fun hg62 => ?_) (fun hg62 => ?_)
            · -- guard 62 on
              have hg62d := of_decide_eq_true hg62
              refine gop (y_bare (y_move (v := .int _ _) rfl)) rfl rfl rfl ?_
              refine gop_on rfl rfl rfl rfl hg62 ?_
              refine gop (y_bare (y_move (v := .int _ _) rfl)) rfl rfl rfl ?_
              refine gop_on rfl rfl rfl rfl hg62 ?_
              refine gop (y_bare (y_eql rfl rfl)) rfl rfl rfl ?_
              refine gop (y_pick_t (v := .bool _) rfl hg62 rfl) rfl rfl rfl ?_
              refine gop (y_assign (v := .bool _) rfl) rfl rfl rfl ?_
              refine gops_nil ?_
              refine hN12 _ _ ?_
              refine gfrom [(6, .bool _)] ⟨rfl, trivial⟩ fun σ => ?_
              refine gret fun w1 hM => ?_
              refine ⟨_, res1 rfl (rt (v := .bool _) rfl), ?_⟩
              exact ⟨by rw [hap]; simp, hM.low⟩
            · -- guard 62 off
              exact (of_decide_eq_false hg62 (by rw [hap])).elim
          · -- slot 58 f
            replace hc58 := of_decide_eq_false hc58
            rw [if_pos (by omega)] at hap
            refine gskip ?_
            refine hN10 _ _ ?_
            refine gfrom [(8, .int _ _), (10, .int _ _), (11, .int _ _), (13, .int _ _), (14, .int _ _)] ⟨rfl, rfl, rfl, rfl, rfl, trivial⟩ fun σ => ?_
            refine gseq fun N13 hN13 => ?_
            refine greg ?_
            refine gop (y_move (v := .int _ _) rfl) rfl rfl rfl ?_
            refine gop (y_move (v := .int _ _) rfl) rfl rfl rfl ?_
            refine gop (y_move (v := .int _ _) rfl) rfl rfl rfl ?_
            refine gop (y_add rfl rfl ⟨by omega, by omega⟩) rfl rfl rfl ?_
            refine gop (y_eql rfl rfl) rfl rfl rfl ?_
            refine gop (y_move (v := .bool _) rfl) rfl rfl rfl ?_
            refine gop_if (want := true) rfl rfl rfl rfl rfl rfl (fun hg72 => ?_) (fun hg72 => ?_)
            · -- guard 72 on
              have hg72d := of_decide_eq_true hg72
              refine gop (y_bare (y_move (v := .int _ _) rfl)) rfl rfl rfl ?_
              refine gop_on rfl rfl rfl rfl hg72 ?_
              refine gop (y_bare (y_move (v := .int _ _) rfl)) rfl rfl rfl ?_
              refine gop_on rfl rfl rfl rfl hg72 ?_
              refine gop (y_bare (y_eql rfl rfl)) rfl rfl rfl ?_
              refine gop (y_pick_t (v := .bool _) rfl hg72 rfl) rfl rfl rfl ?_
              refine gop (y_assign (v := .bool _) rfl) rfl rfl rfl ?_
              refine gops_nil ?_
              refine hN13 _ _ ?_
              refine gfrom [(6, .bool _)] ⟨rfl, trivial⟩ fun σ => ?_
              refine gret fun w1 hM => ?_
              refine ⟨_, res1 rfl (rt (v := .bool _) rfl), ?_⟩
              exact ⟨by rw [hap]; simp, hM.low⟩
            · -- guard 72 off
              exact (of_decide_eq_false hg72 (by rw [hap]; dsimp only; omega)).elim
      · -- guard 50 off
        have hg50d := of_decide_eq_true hg50
        refine gop_off rfl rfl rfl rfl hg50 rfl rfl ?_
        refine gop_off rfl rfl rfl rfl hg50 rfl rfl ?_
        refine gop (y_pick_t (v := .bool _) rfl hg50 rfl) rfl rfl rfl ?_
        refine gops_nil ?_
        refine hN8 _ _ ?_
        refine gfrom [(0, .slice _ _ _), (7, .int _ _), (8, .int _ _), (10, .int _ _), (11, .int _ _), (13, .int _ _), (14, .int _ _), (54, .bool _)] ⟨rfl, rfl, rfl, rfl, rfl, rfl, rfl, rfl, trivial⟩ fun σ => ?_
        refine gcond (b := _) rfl (fun hc54 => ?_) (fun hc54 => ?_)
        · -- slot 54 t
          refine gseq fun N14 hN14 => ?_
          refine greg ?_
          refine gop (y_assign (v := .bool _) rfl) rfl rfl rfl ?_
          refine gops_nil ?_
          refine hN14 _ _ ?_
          refine gfrom [(6, .bool _)] ⟨rfl, trivial⟩ fun σ => ?_
          refine gret fun w1 hM => ?_
          refine ⟨_, res1 rfl (rt (v := .bool _) rfl), ?_⟩
          exact ⟨rfl, hM.low⟩
        · -- slot 54 f
          cases hc54
    · -- guard 45 off
      have hg45d := of_decide_eq_true hg45
      refine gop_off rfl rfl rfl rfl hg45 rfl rfl ?_
      refine gop_off rfl rfl rfl rfl hg45 rfl rfl ?_
      refine gop (y_pick_t (v := .bool _) rfl hg45 rfl) rfl rfl rfl ?_
      refine gop (y_move (v := .bool _) rfl) rfl rfl rfl ?_
      refine gop_off rfl rfl rfl rfl rfl rfl rfl ?_
      refine gop_off rfl rfl rfl rfl rfl rfl rfl ?_
      refine gop_off rfl rfl rfl rfl rfl rfl rfl ?_
      refine gop (y_pick_t (v := .bool _) rfl rfl rfl) rfl rfl rfl ?_
      refine gops_nil ?_
      refine hN8 _ _ ?_
      refine gfrom [(0, .slice _ _ _), (7, .int _ _), (8, .int _ _), (10, .int _ _), (11, .int _ _), (13, .int _ _), (14, .int _ _), (54, .bool _)] ⟨rfl, rfl, rfl, rfl, rfl, rfl, rfl, rfl, trivial⟩ fun σ => ?_
      refine gcond (b := _) rfl (fun hc54 => ?_) (fun hc54 => ?_)
      · -- slot 54 t
        refine gseq fun N15 hN15 => ?_
        refine greg ?_
        refine gop (y_assign (v := .bool _) rfl) rfl rfl rfl ?_
        refine gops_nil ?_
        refine hN15 _ _ ?_
        refine gfrom [(6, .bool _)] ⟨rfl, trivial⟩ fun σ => ?_
        refine gret fun w1 hM => ?_
        refine ⟨_, res1 rfl (rt (v := .bool _) rfl), ?_⟩
        exact ⟨rfl, hM.low⟩
      · -- slot 54 f
        cases hc54
end Go.Proofs.Ytbaojdiccikbiaa
