/- walks, printed by program -/
import Derived.Test.YtijpaljdclhehaaDoorGlobG
import Derived.Test.YtijpaljdclhehaaDoorGlobK
namespace Go.Proofs.YtijpaljdclhehaaDoor
open Go.RowKit Go.Cf
set_option maxRecDepth 10000

theorem bd69_0_1 (x1 : Int) (x2 : Int) : Tryd.prog.built 69 [(0, .int .i64 x1), (1, .int .i64 x2)] = some #[.int .i64 x1, .int .i64 x2] := by kernel_rfl
theorem eg23 (op : BinOp) (x y : Operand) (xs ys : Array Value) (w : World) : (eqGuard op 23 x y (.agg xs) (.agg ys)).run Tryd.prog w = .ok () w := run_eqGuard_agg w op 23 x y xs ys (by kernel_rfl)
theorem ne23 (a0 b0 : Int) (a1 b1 : Int) (w : World) : (binOp .neq 23 (.agg #[.int .i64 a0, .int .i64 a1]) (.agg #[.int .i64 b0, .int .i64 b1])).run Tryd.prog w = .ok (.bool (!(decide (a0 = b0) && decide (a1 = b1)))) w := by
  simp [run_neq_struct, run_equalIn_agg, Tryd.underlying23, Tryd.stoodInHeld23, Program.fieldsOf, go_sem]
  (repeat' split) <;> simp_all

set_option maxHeartbeats 4000000 in
theorem walk1_any (P N : List ByteArray) (A1 A2 : Option Addr) (c1 c2 mb b5 b2 b3 b6 : Nat) (hPs : ∀ x ∈ P, x.size ≤ 4000000) (hNs : ∀ x ∈ N, x.size ≤ 4000000) (hPl : P.length ≤ 4000001) (hNl : N.length ≤ 4000001) (w0 : World)
    (hP : Rdl w0 0 1 strCells A1 P) (hN : Rdl w0 0 1 strCells A2 N) (m : Nat) : ∀ (i j : Nat) (w : World) (l : List ((Nat × Nat) × Bool)) (fr : Reg),
    (∀ w1, fr.ok w1 → w1.cell? ⟨b5, 0, none⟩ = some (.map (some mb)) ∧ w1.cell? ⟨b2, 0, none⟩ = some (.slice A1 P.length c1) ∧ w1.cell? ⟨b3, 0, none⟩ = some (.slice A2 N.length c2) ∧ w1.cell? ⟨b6, 0, none⟩ = some (.func (.func 86) #[] #[.pointer (some ⟨b5, 0, none⟩), .pointer (some ⟨b2, 0, none⟩), .pointer (some ⟨b3, 0, none⟩), .pointer (some ⟨b6, 0, none⟩)])) → P.length - i + (N.length - j) = m → i ≤ P.length → j ≤ N.length → MemoOk (wkAt P N) l → Mem w0 [mapr ek2 Value.bool mb l, fr] w →
    Calls Tryd.prog 86 #[.int .i64 (i : Int), .int .i64 (j : Int), .pointer (some ⟨b5, 0, none⟩), .pointer (some ⟨b2, 0, none⟩), .pointer (some ⟨b3, 0, none⟩), .pointer (some ⟨b6, 0, none⟩)] w fun e w' => e = .returned (.bool (wkAt P N i j)) ∧ ∃ l', MemoOk (wkAt P N) l' ∧ Mem w0 [mapr ek2 Value.bool mb l', fr] w' := by
  refine Nat.strongRecOn m ?_
  intro m ih i j w l fr hF hm hi hj hl hM0
  refine gcallsT Tryd.func86 rfl Tryd.ntmps86 (Nat.le_of_ble_eq_true rfl) hM0 ?_
  refine gfrom [(0, .int _ _), (1, .int _ _), (2, .pointer (some _)), (3, .pointer (some _)), (4, .pointer (some _)), (5, .pointer (some _))] ⟨rfl, rfl, rfl, rfl, rfl, rfl, trivial⟩ fun σ => ?_
  refine gseq fun N1 hN1 => ?_
  refine greg ?_
  refine gop (y_assign (v := .bool _) rfl) rfl rfl rfl ?_
  refine gops_nil ?_
  refine hN1 _ _ ?_
  refine gfrom [(0, .int _ _), (1, .int _ _), (2, .pointer (some _)), (3, .pointer (some _)), (4, .pointer (some _)), (5, .pointer (some _))] ⟨rfl, rfl, rfl, rfl, rfl, rfl, trivial⟩ fun σ => ?_
  refine gseq fun N2 hN2 => ?_
  refine gseq fun N3 hN3 => ?_
  refine greg ?_
  refine gop (y_load Tryd.isAgg66 rfl (fun w hM => (hF w (hM.ok _ (List.mem_of_getElem? (i := 1) rfl))).1)) rfl rfl rfl ?_
  refine gop (y_move (v := .int _ _) rfl) rfl rfl rfl ?_
  refine gop (y_move (v := .int _ _) rfl) rfl rfl rfl ?_
  refine gop (y_build (vs := [(0, .int _ _), (1, .int _ _)]) (cells := #[_, _]) rfl (bd69_0_1 _ _)) rfl rfl rfl ?_
  refine gop (y_lookup 0 (c := true) (v0 := .bool false) (u := .tuple #[.bool ((Go.Cf.look l (i, j)).getD false), .bool (Go.Cf.look l (i, j)).isSome]) key2 Tryd.underlying66 Tryd.zeroValue4 rfl (i, j) rfl rfl (by cases Go.Cf.look l (i, j) <;> rfl)) rfl rfl rfl ?_
  refine gop (y_move (v := .tuple #[.bool _, .bool _]) rfl) rfl rfl rfl ?_
  refine gop (y_extract (v := .bool _) rfl rfl) rfl rfl rfl ?_
  refine gop (y_extract (v := .bool _) rfl rfl) rfl rfl rfl ?_
  refine gop (y_assign (v := .bool _) rfl) rfl rfl rfl ?_
  refine gop (y_assign (v := .bool _) rfl) rfl rfl rfl ?_
  refine gops_nil ?_
  refine hN3 _ _ ?_
  refine gfrom [(0, .int _ _), (1, .int _ _), (2, .pointer (some _)), (3, .pointer (some _)), (4, .pointer (some _)), (5, .pointer (some _)), (9, .bool _), (10, .bool _)] ⟨rfl, rfl, rfl, rfl, rfl, rfl, rfl, rfl, trivial⟩ fun σ => ?_
  refine gseq fun N4 hN4 => ?_
  refine greg ?_
  refine gop (y_move (v := .bool _) rfl) rfl rfl rfl ?_
  refine gops_nil ?_
  refine hN4 _ _ ?_
  refine gfrom [(0, .int _ _), (1, .int _ _), (2, .pointer (some _)), (3, .pointer (some _)), (4, .pointer (some _)), (5, .pointer (some _)), (9, .bool _), (20, .bool _)] ⟨rfl, rfl, rfl, rfl, rfl, rfl, rfl, rfl, trivial⟩ fun σ => ?_
  refine gcond (b := _) rfl (fun hc20 => ?_) (fun hc20 => ?_)
  · -- slot 20 t
    refine gseq fun N5 hN5 => ?_
    refine greg ?_
    refine gop (y_move (v := .bool _) rfl) rfl rfl rfl ?_
    refine gop (y_assign (v := .bool _) rfl) rfl rfl rfl ?_
    refine gops_nil ?_
    refine hN5 _ _ ?_
    refine gfrom [(8, .bool _)] ⟨rfl, trivial⟩ fun σ => ?_
    refine gret fun w1 hM => ?_
    refine ⟨_, res1 rfl (rt (v := .bool _) rfl), ?_⟩
    exact ⟨by rw [memo_hit hl hc20], l, hl, hM⟩
  · -- slot 20 f
    refine gskip ?_
    refine hN2 _ _ ?_
    refine gfrom [(0, .int _ _), (1, .int _ _), (2, .pointer (some _)), (3, .pointer (some _)), (4, .pointer (some _)), (5, .pointer (some _))] ⟨rfl, rfl, rfl, rfl, rfl, rfl, trivial⟩ fun σ => ?_
    refine gseq fun N6 hN6 => ?_
    refine greg ?_
    refine gop (y_assign (v := .bool _) rfl) rfl rfl rfl ?_
    refine gops_nil ?_
    refine hN6 _ _ ?_
    refine gfrom [(0, .int _ _), (1, .int _ _), (2, .pointer (some _)), (3, .pointer (some _)), (4, .pointer (some _)), (5, .pointer (some _))] ⟨rfl, rfl, rfl, rfl, rfl, rfl, trivial⟩ fun σ => ?_
    refine gseq fun N7 hN7 => ?_
    refine gfrom [(0, .int _ _), (1, .int _ _), (2, .pointer (some _)), (3, .pointer (some _)), (4, .pointer (some _)), (5, .pointer (some _))] ⟨rfl, rfl, rfl, rfl, rfl, rfl, trivial⟩ fun σ => ?_
    refine gcut3 (Lf := [(0, .int _ _), (1, .int _ _), (2, .pointer (some _))]) (G := List ((Nat × Nat) × Bool)) (fun l1 => MemoOk (wkAt P N) l1) (fun l1 => [(11, .bool (wkAt P N i j))]) (fun l1 => [(0, mapr ek2 Value.bool mb l1)]) ⟨rfl, rfl, rfl, trivial⟩ ?_ ?_
    ·
      refine gblock ?_
      refine gseq fun N8 hN8 => ?_
      refine greg ?_
      refine gop (y_move (v := .int _ _) rfl) rfl rfl rfl ?_
      refine gop (y_load Tryd.isAgg37 rfl (fun w hM => (hF w (hM.ok _ (List.mem_of_getElem? (i := 1) rfl))).2.1)) rfl rfl rfl ?_
      refine gop (y_len Tryd.underlying37 rfl) rfl rfl rfl ?_
      refine gop (y_eql rfl rfl) rfl rfl rfl ?_
      refine gop (y_assign (v := .bool _) rfl) rfl rfl rfl ?_
      refine gops_nil ?_
      refine hN8 _ _ ?_
      refine gfrom [(0, .int _ _), (1, .int _ _), (2, .pointer (some _)), (3, .pointer (some _)), (4, .pointer (some _)), (5, .pointer (some _)), (45, .bool _)] ⟨rfl, rfl, rfl, rfl, rfl, rfl, rfl, trivial⟩ fun σ => ?_
      refine gcond (b := _) rfl (fun hc45 => ?_) (fun hc45 => ?_)
      · -- slot 45 t
        replace hc45 := of_decide_eq_true hc45
        obtain rfl : i = P.length := by omega
        refine greg ?_
        refine gop (y_move (v := .int _ _) rfl) rfl rfl rfl ?_
        refine gop (y_load Tryd.isAgg37 rfl (fun w hM => (hF w (hM.ok _ (List.mem_of_getElem? (i := 1) rfl))).2.2.1)) rfl rfl rfl ?_
        refine gop (y_len Tryd.underlying37 rfl) rfl rfl rfl ?_
        refine gop (y_eql rfl rfl) rfl rfl rfl ?_
        refine gop (y_assign (v := .bool _) rfl) rfl rfl rfl ?_
        refine gops_nil ?_
        refine gcut3_end (l) (hl) ⟨congrArg Value.bool (wk_end hj).symm, trivial⟩ ⟨rfl, rfl, rfl, trivial⟩ ⟨_, rfl⟩
      · -- slot 45 f
        replace hc45 := of_decide_eq_false hc45
        have hi1 : i < P.length := by omega
        obtain ⟨ad1, rfl, -, hca⟩ := hP.at_ hi1
        refine gseq fun N9 hN9 => ?_
        refine greg ?_
        refine gop (y_load Tryd.isAgg37 rfl (fun w hM => (hF w (hM.ok _ (List.mem_of_getElem? (i := 1) rfl))).2.1)) rfl rfl rfl ?_
        refine gop (y_move (v := .int _ _) rfl) rfl rfl rfl ?_
        refine gop (y_indexAddr (m := i) Tryd.underlying37 Tryd.sizeOf9 rfl rfl (by omega) (by omega) (by omega)) rfl rfl rfl ?_
        refine gop (y_load Tryd.isAgg9 rfl (cell_base (hca 0 _ rfl))) rfl rfl rfl ?_
        refine gop (y_eqls rfl rfl) rfl rfl rfl ?_
        refine gop (y_assign (v := .bool _) rfl) rfl rfl rfl ?_
        refine gops_nil ?_
        refine hN9 _ _ ?_
        refine gfrom [(0, .int _ _), (1, .int _ _), (2, .pointer (some _)), (3, .pointer (some _)), (4, .pointer (some _)), (5, .pointer (some _)), (54, .bool _)] ⟨rfl, rfl, rfl, rfl, rfl, rfl, rfl, trivial⟩ fun σ => ?_
        refine gcond (b := _) rfl (fun hc54 => ?_) (fun hc54 => ?_)
        · -- slot 54 t
          refine greg ?_
          refine gop (y_load Tryd.isAgg67 rfl (fun w hM => (hF w (hM.ok _ (List.mem_of_getElem? (i := 1) rfl))).2.2.2)) rfl rfl rfl ?_
          refine gop (y_move (v := .int _ _) rfl) rfl rfl rfl ?_
          refine gop (y_add rfl rfl ⟨by omega, by omega⟩) rfl rfl rfl ?_
          refine gop (y_move (v := .int _ _) rfl) rfl rfl rfl ?_
          refine gop_does1 0 (fun v r G => ∃ l1, v = .bool (wkAt P N (i + 1) (j)) ∧ r = mapr ek2 Value.bool mb l1 ∧ MemoOk (wkAt P N) l1 ∧ G = []) (e_callv (vs := [.int _ _, .int _ _]) (cs := [.pointer (some ⟨b5, 0, none⟩), .pointer (some ⟨b2, 0, none⟩), .pointer (some ⟨b3, 0, none⟩), .pointer (some ⟨b6, 0, none⟩)]) rfl Tryd.func86 rfl (by kernel_rfl) rfl) rfl (fun w fr1 hfr hM => (ih (P.length - (i + 1) + (N.length - (j))) (by omega) (i + 1) (j) w _ fr1 (fun w1 ho => hF w1 (hfr 1 _ rfl (by decide) w1 ho)) rfl (by omega) (by omega) hl hM).mono fun _ _ ⟨he, l1, h1, h2⟩ => ⟨_, _, [], he, ⟨l1, rfl, rfl, h1, rfl⟩, h2⟩) rfl rfl rfl ?_
          rintro _ _ _ ⟨l1, rfl, rfl, hl1, rfl⟩
          refine gop (y_move (v := .bool _) rfl) rfl rfl rfl ?_
          refine gop_if (want := false) rfl rfl rfl rfl rfl rfl (fun hg65 => ?_) (fun hg65 => ?_)
          · -- guard 65 on
            have hg65d := hg65
            refine gop (y_bare (y_move (v := .int _ _) rfl)) rfl rfl rfl ?_
            refine gop_on rfl rfl rfl rfl hg65 ?_
            refine gop (y_bare (y_load Tryd.isAgg37 rfl (fun w hM => (hF w (hM.ok _ (List.mem_of_getElem? (i := 1) rfl))).2.2.1))) rfl rfl rfl ?_
            refine gop_on rfl rfl rfl rfl hg65 ?_
            refine gop (y_bare (y_len Tryd.underlying37 rfl)) rfl rfl rfl ?_
            refine gop_on rfl rfl rfl rfl hg65 ?_
            refine gop (y_bare (y_lss rfl rfl)) rfl rfl rfl ?_
            refine gop_on rfl rfl rfl rfl hg65 ?_
            refine gop (y_bare (y_move (v := .bool _) rfl)) rfl rfl rfl ?_
            refine gop_if (want := true) rfl rfl rfl rfl rfl rfl (fun hg70 => ?_) (fun hg70 => ?_)
            · -- guard 70 on
              have hg70d := of_decide_eq_true hg70
              refine gop (y_bare (y_load Tryd.isAgg67 rfl (fun w hM => (hF w (hM.ok _ (List.mem_of_getElem? (i := 1) rfl))).2.2.2))) rfl rfl rfl ?_
              refine gop_on rfl rfl rfl rfl hg70 ?_
              refine gop (y_bare (y_move (v := .int _ _) rfl)) rfl rfl rfl ?_
              refine gop_on rfl rfl rfl rfl hg70 ?_
              refine gop (y_bare (y_move (v := .int _ _) rfl)) rfl rfl rfl ?_
              refine gop_on rfl rfl rfl rfl hg70 ?_
              refine gop (y_bare (y_add rfl rfl ⟨by omega, by omega⟩)) rfl rfl rfl ?_
              refine gop_on rfl rfl rfl rfl hg70 ?_
              refine gop_does1 0 (fun v r G => ∃ l1, v = .bool (wkAt P N (i) (j + 1)) ∧ r = mapr ek2 Value.bool mb l1 ∧ MemoOk (wkAt P N) l1 ∧ G = []) (e_callv (vs := [.int _ _, .int _ _]) (cs := [.pointer (some ⟨b5, 0, none⟩), .pointer (some ⟨b2, 0, none⟩), .pointer (some ⟨b3, 0, none⟩), .pointer (some ⟨b6, 0, none⟩)]) rfl Tryd.func86 rfl (by kernel_rfl) rfl) rfl (fun w fr1 hfr hM => (ih (P.length - (i) + (N.length - (j + 1))) (by omega) (i) (j + 1) w _ fr1 (fun w1 ho => hF w1 (hfr 1 _ rfl (by decide) w1 ho)) rfl (by omega) (by omega) hl1 hM).mono fun _ _ ⟨he, l1, h1, h2⟩ => ⟨_, _, [], he, ⟨l1, rfl, rfl, h1, rfl⟩, h2⟩) rfl rfl rfl ?_
              rintro _ _ _ ⟨l2, rfl, rfl, hl2, rfl⟩
              refine gop_on rfl rfl rfl rfl hg65 ?_
              refine gop (y_bare (y_pick_t (v := .bool _) rfl hg70 rfl)) rfl rfl rfl ?_
              refine gop (y_pick_f (v := .bool _) rfl hg65 rfl) rfl rfl rfl ?_
              refine gop (y_assign (v := .bool _) rfl) rfl rfl rfl ?_
              refine gops_nil ?_
              refine gcut3_end (l2) (hl2) ⟨congrArg Value.bool (wk_star2 hi1 hc54 hg65d (by omega)).symm, trivial⟩ ⟨rfl, rfl, rfl, trivial⟩ ⟨_, rfl⟩
            · -- guard 70 off
              have hg70d := of_decide_eq_false hg70
              refine gop_off rfl rfl rfl rfl hg70 rfl rfl ?_
              refine gop_off rfl rfl rfl rfl hg70 rfl rfl ?_
              refine gop_off rfl rfl rfl rfl hg70 rfl rfl ?_
              refine gop_off rfl rfl rfl rfl hg70 rfl rfl ?_
              refine gop_on rfl rfl rfl rfl hg65 ?_
              refine gop (y_bare (y_pick_f (v := .bool _) rfl hg70 rfl)) rfl rfl rfl ?_
              refine gop (y_pick_f (v := .bool _) rfl hg65 rfl) rfl rfl rfl ?_
              refine gop (y_assign (v := .bool _) rfl) rfl rfl rfl ?_
              refine gops_nil ?_
              refine gcut3_end (l1) (hl1) ⟨congrArg Value.bool (wk_star3 hi1 hc54 hg65d (by omega)).symm, trivial⟩ ⟨rfl, rfl, rfl, trivial⟩ ⟨_, rfl⟩
          · -- guard 65 off
            have hg65d := hg65
            refine gop_off rfl rfl rfl rfl hg65 rfl rfl ?_
            refine gop_off rfl rfl rfl rfl hg65 rfl rfl ?_
            refine gop_off rfl rfl rfl rfl hg65 rfl rfl ?_
            refine gop_off rfl rfl rfl rfl hg65 rfl rfl ?_
            refine gop_offu rfl rfl rfl rfl rfl rfl ?_
            refine gop_offu rfl rfl rfl rfl rfl rfl ?_
            refine gop_offu rfl rfl rfl rfl rfl rfl ?_
            refine gop_offu rfl rfl rfl rfl rfl rfl ?_
            refine gop_offu rfl rfl rfl rfl rfl rfl ?_
            refine gop_off rfl rfl rfl rfl hg65 rfl rfl ?_
            refine gop (y_pick_t (v := .bool _) rfl hg65 rfl) rfl rfl rfl ?_
            refine gop (y_assign (v := .bool _) rfl) rfl rfl rfl ?_
            refine gops_nil ?_
            refine gcut3_end (l1) (hl1) ⟨congrArg Value.bool (wk_star1 hi1 hc54 (by simpa using hg65d)).symm, trivial⟩ ⟨rfl, rfl, rfl, trivial⟩ ⟨_, rfl⟩
        · -- slot 54 f
          refine greg_e0 [21] (by kernel_rfl) ?_
          refine ge_take 0 (TK := [mapr _ _ _ _, fr]) rfl (by kernel_rfl) (by kernel_rfl) (by kernel_rfl) #[false, true, true, false, false, false, false, false, false, false, false, false, false, false, false, false, false, false, false, false, false, false, false, false] (by kernel_rfl) rfl (y_move (v := .int _ _) rfl) rfl rfl rfl (weak_refl) (listed' := #[true, false, false, false, false, false, false, false, false, false, false, false, false, false, false, false, false, false, false, false, false, false, false, false]) rfl ?_
          refine ge_take 1 (TK := [mapr _ _ _ _, fr]) rfl (by kernel_rfl) (by kernel_rfl) (by kernel_rfl) #[true, false, false, false, false, false, false, false, false, false, false, false, false, false, false, false, false, false, false, false, false, false, false, false] (by kernel_rfl) rfl (y_load Tryd.isAgg37 rfl (fun w hM => (hF w (hM.ok _ (List.mem_of_getElem? (i := 1) rfl))).2.2.1)) rfl rfl rfl (weak_refl) (listed' := #[true, true, false, false, false, false, false, false, false, false, false, false, false, false, false, false, false, false, false, false, false, false, false, false]) rfl ?_
          refine ge_take 2 (TK := [mapr _ _ _ _, fr]) rfl (by kernel_rfl) (by kernel_rfl) (by kernel_rfl) #[true, true, false, false, false, false, false, false, false, false, false, false, false, false, false, false, false, false, false, false, false, false, false, false] (by kernel_rfl) rfl (y_len Tryd.underlying37 rfl) rfl rfl rfl (weak_refl) (listed' := #[true, true, true, false, false, false, false, false, false, false, false, false, false, false, false, false, false, false, false, false, false, false, false, false]) rfl ?_
          refine ge_take 3 (TK := [mapr _ _ _ _, fr]) rfl (by kernel_rfl) (by kernel_rfl) (by kernel_rfl) #[true, true, true, false, false, false, false, false, false, false, false, false, false, false, false, false, false, false, false, false, false, false, false, false] (by kernel_rfl) rfl (y_lss rfl rfl) rfl rfl rfl (weak_refl) (listed' := #[true, true, true, true, false, false, false, false, false, false, false, false, false, false, false, false, false, false, false, false, false, false, false, false]) rfl ?_
          refine ge_take 4 (TK := [mapr _ _ _ _, fr]) rfl (by kernel_rfl) (by kernel_rfl) (by kernel_rfl) #[true, true, true, true, false, false, false, false, false, false, false, false, false, false, false, false, false, false, false, false, false, false, false, false] (by kernel_rfl) rfl (y_move (v := .bool _) rfl) rfl rfl rfl (weak_refl) (listed' := #[true, true, true, true, true, false, false, false, false, false, false, false, false, false, false, false, false, false, false, false, false, false, false, false]) rfl ?_
          refine ge_dec 26 true rfl (fun hg26 => ?_) (fun hg26 => ?_)
          · -- guard 26 on
            have hg26d := of_decide_eq_true hg26
            have hj1 : j < N.length := by omega
            obtain ⟨ad2, rfl, -, hcb⟩ := hN.at_ hj1
            refine ge_take_on 5 (TK := [mapr _ _ _ _, fr]) rfl (by kernel_rfl) (by kernel_rfl) (by kernel_rfl) #[true, true, true, true, true, false, true, false, false, true, true, true, true, false, false, false, false, false, false, false, false, false, false, false] (by kernel_rfl) rfl rfl rfl rfl rfl hg26 (y_bare (y_load Tryd.isAgg37 rfl (fun w hM => (hF w (hM.ok _ (List.mem_of_getElem? (i := 1) rfl))).2.1))) rfl rfl (weak_refl) (listed' := #[true, true, true, true, true, true, false, false, false, false, false, false, false, false, false, false, false, false, false, false, false, false, false, false]) rfl ?_
            refine ge_take_on 6 (TK := [mapr _ _ _ _, fr]) rfl (by kernel_rfl) (by kernel_rfl) (by kernel_rfl) #[true, true, true, true, true, true, false, false, false, true, true, true, true, false, false, false, false, false, false, false, false, false, false, false] (by kernel_rfl) rfl rfl rfl rfl rfl hg26 (y_bare (y_move (v := .int _ _) rfl)) rfl rfl (weak_refl) (listed' := #[true, true, true, true, true, true, true, false, false, false, false, false, false, false, false, false, false, false, false, false, false, false, false, false]) rfl ?_
            refine ge_take_on 7 (TK := [mapr _ _ _ _, fr]) rfl (by kernel_rfl) (by kernel_rfl) (by kernel_rfl) #[true, true, true, true, true, true, true, false, false, true, true, true, true, false, false, false, false, false, false, false, false, false, false, false] (by kernel_rfl) rfl rfl rfl rfl rfl hg26 (y_bare (y_indexAddr (m := i) Tryd.underlying37 Tryd.sizeOf9 rfl rfl (by omega) (by omega) (by omega))) rfl rfl (weak_refl) (listed' := #[true, true, true, true, true, true, true, true, false, false, false, false, false, false, false, false, false, false, false, false, false, false, false, false]) rfl ?_
            refine ge_take_on 8 (TK := [mapr _ _ _ _, fr]) rfl (by kernel_rfl) (by kernel_rfl) (by kernel_rfl) #[true, true, true, true, true, true, true, true, false, true, true, true, true, false, false, false, false, false, false, false, false, false, false, false] (by kernel_rfl) rfl rfl rfl rfl rfl hg26 (y_bare (y_load Tryd.isAgg9 rfl (cell_base (hca 0 _ rfl)))) rfl rfl (weak_refl) (listed' := #[true, true, true, true, true, true, true, true, true, false, false, false, false, false, false, false, false, false, false, false, false, false, false, false]) rfl ?_
            refine ge_take_on 9 (TK := [mapr _ _ _ _, fr]) rfl (by kernel_rfl) (by kernel_rfl) (by kernel_rfl) #[true, true, true, true, true, true, true, true, true, false, true, false, false, false, false, false, false, false, false, false, false, false, false, false] (by kernel_rfl) rfl rfl rfl rfl rfl hg26 (y_bare (y_load Tryd.isAgg37 rfl (fun w hM => (hF w (hM.ok _ (List.mem_of_getElem? (i := 1) rfl))).2.2.1))) rfl rfl (weak_refl) (listed' := #[true, true, true, true, true, true, true, true, true, true, false, false, false, false, false, false, false, false, false, false, false, false, false, false]) rfl ?_
            refine ge_take_on 10 (TK := [mapr _ _ _ _, fr]) rfl (by kernel_rfl) (by kernel_rfl) (by kernel_rfl) #[true, true, true, true, true, true, true, true, true, true, false, false, false, false, false, false, false, false, false, false, false, false, false, false] (by kernel_rfl) rfl rfl rfl rfl rfl hg26 (y_bare (y_move (v := .int _ _) rfl)) rfl rfl (weak_refl) (listed' := #[true, true, true, true, true, true, true, true, true, true, true, false, false, false, false, false, false, false, false, false, false, false, false, false]) rfl ?_
            refine ge_take_on 11 (TK := [mapr _ _ _ _, fr]) rfl (by kernel_rfl) (by kernel_rfl) (by kernel_rfl) #[true, true, true, true, true, true, true, true, true, true, true, false, false, false, false, false, false, false, false, false, false, false, false, false] (by kernel_rfl) rfl rfl rfl rfl rfl hg26 (y_bare (y_indexAddr (m := j) Tryd.underlying37 Tryd.sizeOf9 rfl rfl (by omega) (by omega) (by omega))) rfl rfl (weak_refl) (listed' := #[true, true, true, true, true, true, true, true, true, true, true, true, false, false, false, false, false, false, false, false, false, false, false, false]) rfl ?_
            refine ge_take_on 12 (TK := [mapr _ _ _ _, fr]) rfl (by kernel_rfl) (by kernel_rfl) (by kernel_rfl) #[true, true, true, true, true, true, true, true, true, true, true, true, false, false, false, false, false, false, false, false, false, false, false, false] (by kernel_rfl) rfl rfl rfl rfl rfl hg26 (y_bare (y_load Tryd.isAgg9 rfl (cell_base (hcb 0 _ rfl)))) rfl rfl (weak_refl) (listed' := #[true, true, true, true, true, true, true, true, true, true, true, true, true, false, false, false, false, false, false, false, false, false, false, false]) rfl ?_
            refine ge_one 13 (k' := 0) (listed' := #[true, true, true, true, true, true, true, true, true, true, true, true, true, true, false, false, false, false, false, false, false, false, false, false]) (by kernel_rfl) rfl rfl rfl ?_
            refine gop_on rfl rfl rfl rfl hg26 ?_
            refine gop_pure (e_call (vs := [.string _, .string _]) Tryd.func87 rfl (by kernel_rfl) rfl) (fun w hM => name_any w _ _ (hPs _ (List.getElem_mem hi1)) (hNs _ (List.getElem_mem hj1))) rfl rfl rfl ?_
            refine gops_nil ?_
            refine ge_fin (TK := [mapr _ _ _ _, fr]) rfl (weak_refl) ?_
            refine ge_take 14 (TK := [mapr _ _ _ _, fr]) rfl (by kernel_rfl) (by kernel_rfl) (by kernel_rfl) #[true, true, true, true, true, true, true, true, true, true, true, true, true, true, false, false, false, false, false, false, false, false, false, false] (by kernel_rfl) rfl (y_pick_t (v := .bool _) rfl hg26 rfl) rfl rfl rfl (weak_refl) (listed' := #[true, true, true, true, true, true, true, true, true, true, true, true, true, true, true, false, false, false, false, false, false, false, false, false]) rfl ?_
            refine ge_take 15 (TK := [mapr _ _ _ _, fr]) rfl (by kernel_rfl) (by kernel_rfl) (by kernel_rfl) #[true, true, true, true, true, true, true, true, true, true, true, true, true, true, true, false, false, false, false, false, false, false, false, false] (by kernel_rfl) rfl (y_move (v := .bool _) rfl) rfl rfl rfl (weak_refl) (listed' := #[true, true, true, true, true, true, true, true, true, true, true, true, true, true, true, true, false, false, false, false, false, false, false, false]) rfl ?_
            refine ge_dec 37 true rfl (fun hg37 => ?_) (fun hg37 => ?_)
            · -- guard 37 on
              have hg37d := hg37
              refine ge_take_on 16 (TK := [mapr _ _ _ _, fr]) rfl (by kernel_rfl) (by kernel_rfl) (by kernel_rfl) #[true, true, true, true, true, true, true, true, true, true, true, true, true, true, true, true, false, true, true, true, true, false, false, false] (by kernel_rfl) rfl rfl rfl rfl rfl hg37 (y_bare (y_load Tryd.isAgg67 rfl (fun w hM => (hF w (hM.ok _ (List.mem_of_getElem? (i := 1) rfl))).2.2.2))) rfl rfl (weak_refl) (listed' := #[true, true, true, true, true, true, true, true, true, true, true, true, true, true, true, true, true, false, false, false, false, false, false, false]) rfl ?_
              refine ge_take_on 17 (TK := [mapr _ _ _ _, fr]) rfl (by kernel_rfl) (by kernel_rfl) (by kernel_rfl) #[true, true, true, true, true, true, true, true, true, true, true, true, true, true, true, true, true, false, false, true, true, false, false, false] (by kernel_rfl) rfl rfl rfl rfl rfl hg37 (y_bare (y_move (v := .int _ _) rfl)) rfl rfl (weak_refl) (listed' := #[true, true, true, true, true, true, true, true, true, true, true, true, true, true, true, true, true, true, false, false, false, false, false, false]) rfl ?_
              refine ge_take_on 18 (TK := [mapr _ _ _ _, fr]) rfl (by kernel_rfl) (by kernel_rfl) (by kernel_rfl) #[true, true, true, true, true, true, true, true, true, true, true, true, true, true, true, true, true, true, false, true, true, false, false, false] (by kernel_rfl) rfl rfl rfl rfl rfl hg37 (y_bare (y_add rfl rfl ⟨by omega, by omega⟩)) rfl rfl (weak_refl) (listed' := #[true, true, true, true, true, true, true, true, true, true, true, true, true, true, true, true, true, true, true, false, false, false, false, false]) rfl ?_
              refine ge_take_on 19 (TK := [mapr _ _ _ _, fr]) rfl (by kernel_rfl) (by kernel_rfl) (by kernel_rfl) #[true, true, true, true, true, true, true, true, true, true, true, true, true, true, true, true, true, true, true, false, false, false, false, false] (by kernel_rfl) rfl rfl rfl rfl rfl hg37 (y_bare (y_move (v := .int _ _) rfl)) rfl rfl (weak_refl) (listed' := #[true, true, true, true, true, true, true, true, true, true, true, true, true, true, true, true, true, true, true, true, false, false, false, false]) rfl ?_
              refine ge_take_on 20 (TK := [mapr _ _ _ _, fr]) rfl (by kernel_rfl) (by kernel_rfl) (by kernel_rfl) #[true, true, true, true, true, true, true, true, true, true, true, true, true, true, true, true, true, true, true, true, false, false, false, false] (by kernel_rfl) rfl rfl rfl rfl rfl hg37 (y_bare (y_add rfl rfl ⟨by omega, by omega⟩)) rfl rfl (weak_refl) (listed' := #[true, true, true, true, true, true, true, true, true, true, true, true, true, true, true, true, true, true, true, true, true, false, false, false]) rfl ?_
              refine ge_one 21 (k' := 1) (listed' := #[true, true, true, true, true, true, true, true, true, true, true, true, true, true, true, true, true, true, true, true, true, true, false, false]) (by kernel_rfl) rfl rfl rfl ?_
              refine gop_on rfl rfl rfl rfl hg37 ?_
              refine gop_does1 0 (fun v r G => ∃ l1, v = .bool (wkAt P N (i + 1) (j + 1)) ∧ r = mapr ek2 Value.bool mb l1 ∧ MemoOk (wkAt P N) l1 ∧ G = []) (e_callv (vs := [.int _ _, .int _ _]) (cs := [.pointer (some ⟨b5, 0, none⟩), .pointer (some ⟨b2, 0, none⟩), .pointer (some ⟨b3, 0, none⟩), .pointer (some ⟨b6, 0, none⟩)]) rfl Tryd.func86 rfl (by kernel_rfl) rfl) rfl (fun w fr1 hfr hM => (ih (P.length - (i + 1) + (N.length - (j + 1))) (by omega) (i + 1) (j + 1) w _ fr1 (fun w1 ho => hF w1 (hfr 1 _ rfl (by decide) w1 ho)) rfl (by omega) (by omega) hl hM).mono fun _ _ ⟨he, l1, h1, h2⟩ => ⟨_, _, [], he, ⟨l1, rfl, rfl, h1, rfl⟩, h2⟩) rfl rfl rfl ?_
              rintro _ _ _ ⟨l1, rfl, rfl, hl1, rfl⟩
              refine gops_nil ?_
              refine ge_fin (TK := []) rfl (weak_nil) ?_
              refine ge_take 22 (TK := []) rfl (by kernel_rfl) (by kernel_rfl) (by kernel_rfl) #[true, true, true, true, true, true, true, true, true, true, true, true, true, true, true, true, true, true, true, true, true, true, false, false] (by kernel_rfl) rfl (y_pick_t (v := .bool _) rfl hg37 rfl) rfl rfl rfl (weak_nil) (listed' := #[true, true, true, true, true, true, true, true, true, true, true, true, true, true, true, true, true, true, true, true, true, true, true, false]) rfl ?_
              refine ge_take 23 (TK := []) rfl (by kernel_rfl) (by kernel_rfl) (by kernel_rfl) #[true, true, true, true, true, true, true, true, true, true, true, true, true, true, true, true, true, true, true, true, true, true, true, false] (by kernel_rfl) rfl (y_assign (v := .bool _) rfl) rfl rfl rfl (weak_nil) (listed' := #[true, true, true, true, true, true, true, true, true, true, true, true, true, true, true, true, true, true, true, true, true, true, true, true]) rfl ?_
              refine ge_done (by kernel_rfl) ?_
              refine gcut3_end (l1) (hl1) ⟨congrArg Value.bool (by rw [wk_name hi1 hc54 hj1, hg37d, Bool.true_and]), trivial⟩ ⟨rfl, rfl, rfl, trivial⟩ ⟨_, rfl⟩
            · -- guard 37 off
              have hg37d := hg37
              refine ge_take_off 16 (TK := [mapr _ _ _ _, fr]) rfl (by kernel_rfl) (by kernel_rfl) (by kernel_rfl) #[true, true, true, true, true, true, true, true, true, true, true, true, true, true, true, true, false, true, true, true, true, false, false, false] (by kernel_rfl) rfl rfl rfl rfl rfl (off_of hg37) rfl rfl (weak_refl) (listed' := #[true, true, true, true, true, true, true, true, true, true, true, true, true, true, true, true, true, false, false, false, false, false, false, false]) rfl ?_
              refine ge_take_off 17 (TK := [mapr _ _ _ _, fr]) rfl (by kernel_rfl) (by kernel_rfl) (by kernel_rfl) #[true, true, true, true, true, true, true, true, true, true, true, true, true, true, true, true, true, false, false, true, true, false, false, false] (by kernel_rfl) rfl rfl rfl rfl rfl (off_of hg37) rfl rfl (weak_refl) (listed' := #[true, true, true, true, true, true, true, true, true, true, true, true, true, true, true, true, true, true, false, false, false, false, false, false]) rfl ?_
              refine ge_take_off 18 (TK := [mapr _ _ _ _, fr]) rfl (by kernel_rfl) (by kernel_rfl) (by kernel_rfl) #[true, true, true, true, true, true, true, true, true, true, true, true, true, true, true, true, true, true, false, true, true, false, false, false] (by kernel_rfl) rfl rfl rfl rfl rfl (off_of hg37) rfl rfl (weak_refl) (listed' := #[true, true, true, true, true, true, true, true, true, true, true, true, true, true, true, true, true, true, true, false, false, false, false, false]) rfl ?_
              refine ge_take_off 19 (TK := [mapr _ _ _ _, fr]) rfl (by kernel_rfl) (by kernel_rfl) (by kernel_rfl) #[true, true, true, true, true, true, true, true, true, true, true, true, true, true, true, true, true, true, true, false, false, false, false, false] (by kernel_rfl) rfl rfl rfl rfl rfl (off_of hg37) rfl rfl (weak_refl) (listed' := #[true, true, true, true, true, true, true, true, true, true, true, true, true, true, true, true, true, true, true, true, false, false, false, false]) rfl ?_
              refine ge_take_off 20 (TK := [mapr _ _ _ _, fr]) rfl (by kernel_rfl) (by kernel_rfl) (by kernel_rfl) #[true, true, true, true, true, true, true, true, true, true, true, true, true, true, true, true, true, true, true, true, false, false, false, false] (by kernel_rfl) rfl rfl rfl rfl rfl (off_of hg37) rfl rfl (weak_refl) (listed' := #[true, true, true, true, true, true, true, true, true, true, true, true, true, true, true, true, true, true, true, true, true, false, false, false]) rfl ?_
              refine ge_one 21 (k' := 1) (listed' := #[true, true, true, true, true, true, true, true, true, true, true, true, true, true, true, true, true, true, true, true, true, true, false, false]) (by kernel_rfl) rfl rfl rfl ?_
              refine gop_off rfl rfl rfl rfl hg37 rfl rfl ?_
              refine gops_nil ?_
              refine ge_fin (TK := []) rfl (weak_nil) ?_
              refine ge_take 22 (TK := []) rfl (by kernel_rfl) (by kernel_rfl) (by kernel_rfl) #[true, true, true, true, true, true, true, true, true, true, true, true, true, true, true, true, true, true, true, true, true, true, false, false] (by kernel_rfl) rfl (y_pick_f (v := .bool _) rfl hg37 rfl) rfl rfl rfl (weak_nil) (listed' := #[true, true, true, true, true, true, true, true, true, true, true, true, true, true, true, true, true, true, true, true, true, true, true, false]) rfl ?_
              refine ge_take 23 (TK := []) rfl (by kernel_rfl) (by kernel_rfl) (by kernel_rfl) #[true, true, true, true, true, true, true, true, true, true, true, true, true, true, true, true, true, true, true, true, true, true, true, false] (by kernel_rfl) rfl (y_assign (v := .bool _) rfl) rfl rfl rfl (weak_nil) (listed' := #[true, true, true, true, true, true, true, true, true, true, true, true, true, true, true, true, true, true, true, true, true, true, true, true]) rfl ?_
              refine ge_done (by kernel_rfl) ?_
              refine gcut3_end (l) (hl) ⟨congrArg Value.bool (by rw [wk_name hi1 hc54 hj1, hg37d]; rfl), trivial⟩ ⟨rfl, rfl, rfl, trivial⟩ ⟨_, rfl⟩
          · -- guard 26 off
            have hg26d := of_decide_eq_false hg26
            refine ge_take_off 5 (TK := [mapr _ _ _ _, fr]) rfl (by kernel_rfl) (by kernel_rfl) (by kernel_rfl) #[true, true, true, true, true, false, true, false, false, true, true, true, true, false, false, false, false, false, false, false, false, false, false, false] (by kernel_rfl) rfl rfl rfl rfl rfl (off_of hg26) rfl rfl (weak_refl) (listed' := #[true, true, true, true, true, true, false, false, false, false, false, false, false, false, false, false, false, false, false, false, false, false, false, false]) rfl ?_
            refine ge_take_off 6 (TK := [mapr _ _ _ _, fr]) rfl (by kernel_rfl) (by kernel_rfl) (by kernel_rfl) #[true, true, true, true, true, true, false, false, false, true, true, true, true, false, false, false, false, false, false, false, false, false, false, false] (by kernel_rfl) rfl rfl rfl rfl rfl (off_of hg26) rfl rfl (weak_refl) (listed' := #[true, true, true, true, true, true, true, false, false, false, false, false, false, false, false, false, false, false, false, false, false, false, false, false]) rfl ?_
            refine ge_take_off 7 (TK := [mapr _ _ _ _, fr]) rfl (by kernel_rfl) (by kernel_rfl) (by kernel_rfl) #[true, true, true, true, true, true, true, false, false, true, true, true, true, false, false, false, false, false, false, false, false, false, false, false] (by kernel_rfl) rfl rfl rfl rfl rfl (off_of hg26) rfl rfl (weak_refl) (listed' := #[true, true, true, true, true, true, true, true, false, false, false, false, false, false, false, false, false, false, false, false, false, false, false, false]) rfl ?_
            refine ge_take_off 8 (TK := [mapr _ _ _ _, fr]) rfl (by kernel_rfl) (by kernel_rfl) (by kernel_rfl) #[true, true, true, true, true, true, true, true, false, true, true, true, true, false, false, false, false, false, false, false, false, false, false, false] (by kernel_rfl) rfl rfl rfl rfl rfl (off_of hg26) rfl rfl (weak_refl) (listed' := #[true, true, true, true, true, true, true, true, true, false, false, false, false, false, false, false, false, false, false, false, false, false, false, false]) rfl ?_
            refine ge_take_off 9 (TK := [mapr _ _ _ _, fr]) rfl (by kernel_rfl) (by kernel_rfl) (by kernel_rfl) #[true, true, true, true, true, true, true, true, true, false, true, false, false, false, false, false, false, false, false, false, false, false, false, false] (by kernel_rfl) rfl rfl rfl rfl rfl (off_of hg26) rfl rfl (weak_refl) (listed' := #[true, true, true, true, true, true, true, true, true, true, false, false, false, false, false, false, false, false, false, false, false, false, false, false]) rfl ?_
            refine ge_take_off 10 (TK := [mapr _ _ _ _, fr]) rfl (by kernel_rfl) (by kernel_rfl) (by kernel_rfl) #[true, true, true, true, true, true, true, true, true, true, false, false, false, false, false, false, false, false, false, false, false, false, false, false] (by kernel_rfl) rfl rfl rfl rfl rfl (off_of hg26) rfl rfl (weak_refl) (listed' := #[true, true, true, true, true, true, true, true, true, true, true, false, false, false, false, false, false, false, false, false, false, false, false, false]) rfl ?_
            refine ge_take_off 11 (TK := [mapr _ _ _ _, fr]) rfl (by kernel_rfl) (by kernel_rfl) (by kernel_rfl) #[true, true, true, true, true, true, true, true, true, true, true, false, false, false, false, false, false, false, false, false, false, false, false, false] (by kernel_rfl) rfl rfl rfl rfl rfl (off_of hg26) rfl rfl (weak_refl) (listed' := #[true, true, true, true, true, true, true, true, true, true, true, true, false, false, false, false, false, false, false, false, false, false, false, false]) rfl ?_
            refine ge_take_off 12 (TK := [mapr _ _ _ _, fr]) rfl (by kernel_rfl) (by kernel_rfl) (by kernel_rfl) #[true, true, true, true, true, true, true, true, true, true, true, true, false, false, false, false, false, false, false, false, false, false, false, false] (by kernel_rfl) rfl rfl rfl rfl rfl (off_of hg26) rfl rfl (weak_refl) (listed' := #[true, true, true, true, true, true, true, true, true, true, true, true, true, false, false, false, false, false, false, false, false, false, false, false]) rfl ?_
            refine ge_one 13 (k' := 0) (listed' := #[true, true, true, true, true, true, true, true, true, true, true, true, true, true, false, false, false, false, false, false, false, false, false, false]) (by kernel_rfl) rfl rfl rfl ?_
            refine gop_off rfl rfl rfl rfl hg26 rfl rfl ?_
            refine gops_nil ?_
            refine ge_fin (TK := [mapr _ _ _ _, fr]) rfl (weak_refl) ?_
            refine ge_take 14 (TK := [mapr _ _ _ _, fr]) rfl (by kernel_rfl) (by kernel_rfl) (by kernel_rfl) #[true, true, true, true, true, true, true, true, true, true, true, true, true, true, false, false, false, false, false, false, false, false, false, false] (by kernel_rfl) rfl (y_pick_f (v := .bool _) rfl hg26 rfl) rfl rfl rfl (weak_refl) (listed' := #[true, true, true, true, true, true, true, true, true, true, true, true, true, true, true, false, false, false, false, false, false, false, false, false]) rfl ?_
            refine ge_take 15 (TK := [mapr _ _ _ _, fr]) rfl (by kernel_rfl) (by kernel_rfl) (by kernel_rfl) #[true, true, true, true, true, true, true, true, true, true, true, true, true, true, true, false, false, false, false, false, false, false, false, false] (by kernel_rfl) rfl (y_move (v := .bool _) rfl) rfl rfl rfl (weak_refl) (listed' := #[true, true, true, true, true, true, true, true, true, true, true, true, true, true, true, true, false, false, false, false, false, false, false, false]) rfl ?_
            refine ge_take_off 16 (TK := [mapr _ _ _ _, fr]) rfl (by kernel_rfl) (by kernel_rfl) (by kernel_rfl) #[true, true, true, true, true, true, true, true, true, true, true, true, true, true, true, true, false, true, true, true, true, false, false, false] (by kernel_rfl) rfl rfl rfl rfl rfl (off_of rfl) rfl rfl (weak_refl) (listed' := #[true, true, true, true, true, true, true, true, true, true, true, true, true, true, true, true, true, false, false, false, false, false, false, false]) rfl ?_
            refine ge_take_off 17 (TK := [mapr _ _ _ _, fr]) rfl (by kernel_rfl) (by kernel_rfl) (by kernel_rfl) #[true, true, true, true, true, true, true, true, true, true, true, true, true, true, true, true, true, false, false, true, true, false, false, false] (by kernel_rfl) rfl rfl rfl rfl rfl (off_of rfl) rfl rfl (weak_refl) (listed' := #[true, true, true, true, true, true, true, true, true, true, true, true, true, true, true, true, true, true, false, false, false, false, false, false]) rfl ?_
            refine ge_take_off 18 (TK := [mapr _ _ _ _, fr]) rfl (by kernel_rfl) (by kernel_rfl) (by kernel_rfl) #[true, true, true, true, true, true, true, true, true, true, true, true, true, true, true, true, true, true, false, true, true, false, false, false] (by kernel_rfl) rfl rfl rfl rfl rfl (off_of rfl) rfl rfl (weak_refl) (listed' := #[true, true, true, true, true, true, true, true, true, true, true, true, true, true, true, true, true, true, true, false, false, false, false, false]) rfl ?_
            refine ge_take_off 19 (TK := [mapr _ _ _ _, fr]) rfl (by kernel_rfl) (by kernel_rfl) (by kernel_rfl) #[true, true, true, true, true, true, true, true, true, true, true, true, true, true, true, true, true, true, true, false, false, false, false, false] (by kernel_rfl) rfl rfl rfl rfl rfl (off_of rfl) rfl rfl (weak_refl) (listed' := #[true, true, true, true, true, true, true, true, true, true, true, true, true, true, true, true, true, true, true, true, false, false, false, false]) rfl ?_
            refine ge_take_off 20 (TK := [mapr _ _ _ _, fr]) rfl (by kernel_rfl) (by kernel_rfl) (by kernel_rfl) #[true, true, true, true, true, true, true, true, true, true, true, true, true, true, true, true, true, true, true, true, false, false, false, false] (by kernel_rfl) rfl rfl rfl rfl rfl (off_of rfl) rfl rfl (weak_refl) (listed' := #[true, true, true, true, true, true, true, true, true, true, true, true, true, true, true, true, true, true, true, true, true, false, false, false]) rfl ?_
            refine ge_one 21 (k' := 1) (listed' := #[true, true, true, true, true, true, true, true, true, true, true, true, true, true, true, true, true, true, true, true, true, true, false, false]) (by kernel_rfl) rfl rfl rfl ?_
            refine gop_off rfl rfl rfl rfl rfl rfl rfl ?_
            refine gops_nil ?_
            refine ge_fin (TK := []) rfl (weak_nil) ?_
            refine ge_take 22 (TK := []) rfl (by kernel_rfl) (by kernel_rfl) (by kernel_rfl) #[true, true, true, true, true, true, true, true, true, true, true, true, true, true, true, true, true, true, true, true, true, true, false, false] (by kernel_rfl) rfl (y_pick_f (v := .bool _) rfl rfl rfl) rfl rfl rfl (weak_nil) (listed' := #[true, true, true, true, true, true, true, true, true, true, true, true, true, true, true, true, true, true, true, true, true, true, true, false]) rfl ?_
            refine ge_take 23 (TK := []) rfl (by kernel_rfl) (by kernel_rfl) (by kernel_rfl) #[true, true, true, true, true, true, true, true, true, true, true, true, true, true, true, true, true, true, true, true, true, true, true, false] (by kernel_rfl) rfl (y_assign (v := .bool _) rfl) rfl rfl rfl (weak_nil) (listed' := #[true, true, true, true, true, true, true, true, true, true, true, true, true, true, true, true, true, true, true, true, true, true, true, true]) rfl ?_
            refine ge_done (by kernel_rfl) ?_
            refine gcut3_end (l) (hl) ⟨congrArg Value.bool (wk_name0 hi1 hc54 (by omega)).symm, trivial⟩ ⟨rfl, rfl, rfl, trivial⟩ ⟨_, rfl⟩
    ·
      intro l1 hcut σ
      refine hN7 _ _ ?_
      have hl1 := hcut
      refine gseq fun N10 hN10 => ?_
      refine greg ?_
      refine gop (y_load Tryd.isAgg66 rfl (fun w hM => (hF w (hM.ok _ (List.mem_of_getElem? (i := 1) rfl))).1)) rfl rfl rfl ?_
      refine gop (y_move (v := .int _ _) rfl) rfl rfl rfl ?_
      refine gop (y_move (v := .int _ _) rfl) rfl rfl rfl ?_
      refine gop (y_build (vs := [(0, .int _ _), (1, .int _ _)]) (cells := #[_, _]) rfl (bd69_0_1 _ _)) rfl rfl rfl ?_
      refine gop (y_move (v := .bool _) rfl) rfl rfl rfl ?_
      refine gop_mapUpdate 0 key2 Tryd.underlying66 rfl ((i, j)) (_) rfl rfl rfl rfl rfl ?_
      refine gops_nil ?_
      refine hN10 _ _ ?_
      refine gT [mapr _ _ _ _, fr] rfl ?_
      refine gfrom [(11, .bool _)] ⟨rfl, trivial⟩ fun σ => ?_
      refine gseq fun N11 hN11 => ?_
      refine greg ?_
      refine gop (y_move (v := .bool _) rfl) rfl rfl rfl ?_
      refine gop (y_assign (v := .bool _) rfl) rfl rfl rfl ?_
      refine gops_nil ?_
      refine hN11 _ _ ?_
      refine gfrom [(8, .bool _)] ⟨rfl, trivial⟩ fun σ => ?_
      refine gret fun w1 hM => ?_
      refine ⟨_, res1 rfl (rt (v := .bool _) rfl), ?_⟩
      exact ⟨rfl, _, memo_put hl1 i j, hM⟩

set_option maxHeartbeats 1000000 in
theorem walk_any (w : World) (P N : List ByteArray) (A1 A2 : Option Addr) (c1 c2 : Nat) (hPs : ∀ x ∈ P, x.size ≤ 4000000) (hNs : ∀ x ∈ N, x.size ≤ 4000000) (hPl : P.length ≤ 4000001) (hNl : N.length ≤ 4000001) (hP : Rdl w 0 1 strCells A1 P) (hN : Rdl w 0 1 strCells A2 N) : Calls Tryd.prog 69 #[.slice A1 P.length c1, .slice A2 N.length c2] w fun e w' => e = .returned (.bool (wkAt P N 0 0)) ∧ Below w.heap.size w w' := by
  refine gcalls Tryd.func69 rfl Tryd.ntmps69 (Nat.le_of_ble_eq_true rfl) ?_
  refine gfrom [(0, .slice _ _ _), (1, .slice _ _ _)] ⟨rfl, rfl, trivial⟩ fun σ => ?_
  refine gseq fun N1 hN1 => ?_
  refine greg ?_
  refine gop_box (v := .slice _ _ _) (cs := #[_]) rfl rfl rfl (fun b2 hb2 => ?_)
  refine gop_box (v := .slice _ _ _) (cs := #[_]) rfl rfl rfl (fun b3 hb3 => ?_)
  refine gop (y_assign (v := .bool _) rfl) rfl rfl rfl ?_
  refine gops_nil ?_
  refine hN1 _ _ ?_
  refine gT [box b2 _, box b3 _] rfl ?_
  refine gfrom [(2, .pointer _), (3, .pointer _)] ⟨rfl, rfl, trivial⟩ fun σ => ?_
  refine gseq fun N2 hN2 => ?_
  refine greg ?_
  refine gop_makeMap ek2 Value.bool rfl (fun b7 hb7 => ?_)
  refine gop_alloc (cs := #[.map none]) Tryd.zeroValue66 rfl rfl (fun b5 hb5 => ?_)
  refine gop_store 3 (v := .map (some b7)) (cs' := #[_]) rfl rfl Tryd.sizeOf66 rfl rfl rfl rfl (Nat.le_of_ble_eq_true rfl) rfl rfl ?_
  refine gops_nil ?_
  refine hN2 _ _ ?_
  refine gT [box b2 _, box b3 _, mapr _ _ _ _, box b5 _] rfl ?_
  refine gfrom [(2, .pointer _), (3, .pointer _), (5, .pointer _)] ⟨rfl, rfl, rfl, trivial⟩ fun σ => ?_
  refine gseq fun N3 hN3 => ?_
  refine greg ?_
  refine gop_alloc (cs := #[.nilFunc]) Tryd.zeroValue67 rfl rfl (fun b6 hb6 => ?_)
  refine gops_nil ?_
  refine hN3 _ _ ?_
  refine gT [box b2 _, box b3 _, mapr _ _ _ _, box b5 _, box b6 _] rfl ?_
  refine gfrom [(2, .pointer _), (3, .pointer _), (5, .pointer _), (6, .pointer _)] ⟨rfl, rfl, rfl, rfl, trivial⟩ fun σ => ?_
  refine gseq fun N4 hN4 => ?_
  refine greg ?_
  refine gop (y_makeFunc (vs := [.pointer (some ⟨b5, 0, none⟩), .pointer (some ⟨b2, 0, none⟩), .pointer (some ⟨b3, 0, none⟩), .pointer (some ⟨b6, 0, none⟩)]) rfl) rfl rfl rfl ?_
  refine gop_store 4 (v := .func (.func 86) #[] #[.pointer (some ⟨b5, 0, none⟩), .pointer (some ⟨b2, 0, none⟩), .pointer (some ⟨b3, 0, none⟩), .pointer (some ⟨b6, 0, none⟩)]) (cs' := #[_]) rfl rfl Tryd.sizeOf67 rfl rfl rfl rfl (Nat.le_of_ble_eq_true rfl) rfl rfl ?_
  refine gops_nil ?_
  refine hN4 _ _ ?_
  refine gT [box b2 _, box b3 _, mapr _ _ _ _, box b5 _, box b6 _] rfl ?_
  refine gfrom [(6, .pointer _)] ⟨rfl, trivial⟩ fun σ => ?_
  refine gseq fun N5 hN5 => ?_
  refine greg ?_
  refine gop (y_load Tryd.isAgg67 rfl (cell_box 4 rfl rfl)) rfl rfl rfl ?_
  refine gop_does1 2 (fun v r G => ∃ l1, v = .bool (wkAt P N 0 0) ∧ r = mapr ek2 Value.bool b7 l1 ∧ G = []) (e_callv (vs := [.int _ _, .int _ _]) (cs := [.pointer (some ⟨b5, 0, none⟩), .pointer (some ⟨b2, 0, none⟩), .pointer (some ⟨b3, 0, none⟩), .pointer (some ⟨b6, 0, none⟩)]) rfl Tryd.func86 rfl (by kernel_rfl) rfl) rfl (fun w fr1 hfr hM => (walk1_any P N _ _ _ _ b7 b5 b2 b3 b6 hPs hNs hPl hNl _ hP hN _ 0 0 w [] fr1 (fun w1 ho => ⟨box_cell (hfr 3 _ rfl (by decide) w1 ho) rfl, box_cell (hfr 0 _ rfl (by decide) w1 ho) rfl, box_cell (hfr 1 _ rfl (by decide) w1 ho) rfl, box_cell (hfr 4 _ rfl (by decide) w1 ho) rfl⟩) rfl (Nat.zero_le _) (Nat.zero_le _) (memo_nil _) hM).mono fun _ _ ⟨he, l1, h1, h2⟩ => ⟨_, _, [], he, ⟨l1, rfl, rfl, rfl⟩, h2⟩) rfl rfl rfl ?_
  rintro _ _ _ ⟨l1, rfl, rfl, rfl⟩
  refine gop (y_assign (v := .bool _) rfl) rfl rfl rfl ?_
  refine gops_nil ?_
  refine hN5 _ _ ?_
  refine gT [box b2 _, box b3 _, mapr _ _ _ _, box b5 _, box b6 _] rfl ?_
  refine gfrom [(4, .bool _)] ⟨rfl, trivial⟩ fun σ => ?_
  refine gret fun w1 hM => ?_
  refine ⟨_, res1 rfl (rt (v := .bool _) rfl), ?_⟩
  exact ⟨rfl, hM.low⟩

set_option maxHeartbeats 1000000 in
theorem matches_any (w : World) (p s : ByteArray) (hp : p.size ≤ 4000000) (hs : s.size ≤ 4000000) : Calls Tryd.prog 43 #[.string p, .string s] w fun e w' => e = .returned (.bool (wk (cutS p) (cutS s))) ∧ Below w.heap.size w w' := by
  have hc1 := cutS_len p
  have hc2 := cutS_len s
  refine gcalls Tryd.func43 rfl Tryd.ntmps43 (Nat.le_of_ble_eq_true rfl) ?_
  refine gfrom [(0, .string _), (1, .string _)] ⟨rfl, rfl, trivial⟩ fun σ => ?_
  refine gseq fun N1 hN1 => ?_
  refine greg ?_
  refine gop (y_assign (v := .bool _) rfl) rfl rfl rfl ?_
  refine gops_nil ?_
  refine hN1 _ _ ?_
  refine gfrom [(0, .string _), (1, .string _)] ⟨rfl, rfl, trivial⟩ fun σ => ?_
  refine gseq fun N2 hN2 => ?_
  refine greg ?_
  refine gop (y_move (v := .string _) rfl) rfl rfl rfl ?_
  refine gop_got (fun v T' => ∃ lo, w.heap.size ≤ lo ∧ T' = [rowl strCells lo 9 1 v (cutS p)]) (e_call (vs := [.string _, _]) Tryd.func44 rfl (by kernel_rfl) rfl) (fun w hM => (split_any w p hp).mono fun _ _ ⟨v, T1, h1, h2, h3⟩ => ⟨v, T1, h1, ⟨_, hM.low.size, h2⟩, h3⟩) rfl rfl rfl ?_
  rintro v6 _ ⟨lo6, hlo6, rfl⟩
  refine gops_fact (fun w hM => row_form (hM.ok _ (List.mem_of_getElem? (i := 0) rfl))) ?_
  rintro ⟨A6, c6, rfl, hc6, hm6, hn6⟩
  refine gop (y_move (v := .string _) rfl) rfl rfl rfl ?_
  refine gop_got (fun v T' => ∃ lo, w.heap.size ≤ lo ∧ T' = [rowl strCells lo 9 1 v (cutS s)]) (e_call (vs := [.string _, _]) Tryd.func44 rfl (by kernel_rfl) rfl) (fun w hM => (split_any w s hs).mono fun _ _ ⟨v, T1, h1, h2, h3⟩ => ⟨v, T1, h1, ⟨_, hM.low.size, h2⟩, h3⟩) rfl rfl rfl ?_
  rintro v8 _ ⟨lo8, hlo8, rfl⟩
  refine gops_fact (fun w hM => row_form (hM.ok _ (List.mem_of_getElem? (i := 1) rfl))) ?_
  rintro ⟨A8, c8, rfl, hc8, hm8, hn8⟩
  refine gop_pure (e_call (vs := [.slice A6 _ c6, .slice A8 _ c8]) Tryd.func69 rfl (by kernel_rfl) rfl) (fun w hM => walk_any w (cutS p) (cutS s) _ _ _ _ (fun _ h => cutS_size h hp) (fun _ h => cutS_size h hs) (by omega) (by omega) ((row_rdl (f := strCells) (fun _ => rfl) (hM.ok _ (List.mem_of_getElem? (i := 0) rfl))).mono (Nat.zero_le _)) ((row_rdl (f := strCells) (fun _ => rfl) (hM.ok _ (List.mem_of_getElem? (i := 1) rfl))).mono (Nat.zero_le _))) rfl rfl rfl ?_
  refine gop (y_assign (v := .bool _) rfl) rfl rfl rfl ?_
  refine gops_nil ?_
  refine hN2 _ _ ?_
  refine gT [rowl _ _ _ _ _ _, rowl _ _ _ _ _ _] rfl ?_
  refine gfrom [(4, .bool _)] ⟨rfl, trivial⟩ fun σ => ?_
  refine gret fun w1 hM => ?_
  refine ⟨_, res1 rfl (rt (v := .bool _) rfl), ?_⟩
  exact ⟨rfl, hM.low⟩

set_option maxHeartbeats 1000000 in
theorem match_any (w : World) (p s : ByteArray) : Calls Tryd.prog 14 #[.string p, .string s] w fun e w' => e = .returned (.tuple #[.bool (matchV p s), fv (matchF p s)]) ∧ Below w.heap.size w w' := by
  refine gcalls Tryd.func14 rfl Tryd.ntmps14 (Nat.le_of_ble_eq_true rfl) ?_
  refine gfrom [(0, .string _), (1, .string _)] ⟨rfl, rfl, trivial⟩ fun σ => ?_
  refine gseq fun N1 hN1 => ?_
  refine greg ?_
  refine gop (y_assign (v := .bool _) rfl) rfl rfl rfl ?_
  refine gop_alloc (cs := #[.int .i64 0, .int .i64 0]) Tryd.zeroValue23 rfl rfl (fun b5 hb5 => ?_)
  refine gops_nil ?_
  refine hN1 _ _ ?_
  refine gT [box b5 _] rfl ?_
  refine gfrom [(0, .string _), (1, .string _), (5, .pointer _)] ⟨rfl, rfl, rfl, trivial⟩ fun σ => ?_
  refine gseq fun N2 hN2 => ?_
  refine gseq fun N3 hN3 => ?_
  refine greg ?_
  refine gop (y_move (v := .string _) rfl) rfl rfl rfl ?_
  refine gop_pure (e_call (vs := [.string _]) Tryd.func38 rfl (by kernel_rfl) rfl) (fun w hM => validate_any w _) rfl rfl rfl ?_
  refine gop_alloc (cs := #[.int .i64 0, .int .i64 0]) Tryd.zeroValue23 rfl rfl (fun b6 hb6 => ?_)
  refine gop_store 1 (v := .agg #[_, _]) (cs' := #[_, _]) rfl rfl Tryd.sizeOf23 rfl rfl rfl rfl (Nat.le_of_ble_eq_true rfl) rfl rfl ?_
  refine gops_nil ?_
  refine hN3 _ _ ?_
  refine gT [box b5 _, box b6 _] rfl ?_
  refine gfrom [(0, .string _), (1, .string _), (5, .pointer _), (6, .pointer _)] ⟨rfl, rfl, rfl, rfl, trivial⟩ fun σ => ?_
  refine gseq fun N4 hN4 => ?_
  refine greg ?_
  refine gop (y_loads (cs := [_, _]) Tryd.isAgg23 Tryd.sizeOf23 rfl rfl (cells_box 1 rfl)) rfl rfl rfl ?_
  refine gop (y_build (vs := []) (cells := #[.int .i64 0, .int .i64 0]) rfl bd23_) rfl rfl rfl ?_
  refine gop (y_bin (vx := .agg #[_, _]) (vy := .agg #[_, _]) rfl rfl (fun w => eg23 _ _ _ _ _ w) (fun w => ne23 _ _ _ _ w)) rfl rfl rfl ?_
  refine gops_nil ?_
  refine hN4 _ _ ?_
  refine gfrom [(0, .string _), (1, .string _), (5, .pointer _), (6, .pointer _), (11, .bool _)] ⟨rfl, rfl, rfl, rfl, rfl, trivial⟩ fun σ => ?_
  refine gcond (b := _) rfl (fun hc11 => ?_) (fun hc11 => ?_)
  · -- slot 11 t
    replace hc11 := fault_ne.1 hc11
    refine gseq fun N5 hN5 => ?_
    refine greg_e1 [] [(0, room b5 23 2)] (by kernel_rfl) ?_
    refine ge_take 0 (TK := [room b5 23 2, box b6 _]) rfl (by kernel_rfl) (by kernel_rfl) (by kernel_rfl) #[false, true, false] (by kernel_rfl) rfl (y_loads (cs := [_, _]) Tryd.isAgg23 Tryd.sizeOf23 rfl rfl (cells_box 1 rfl)) rfl rfl rfl (weak_room 0 rfl rfl) (listed' := #[true, false, false]) rfl ?_
    refine ge_take 1 (TK := [room b5 23 2, box b6 _]) rfl (by kernel_rfl) (by kernel_rfl) (by kernel_rfl) #[true, false, false] (by kernel_rfl) rfl (y_assign (v := .bool _) rfl) rfl rfl rfl (weak_room 0 rfl rfl) (listed' := #[true, true, false]) rfl ?_
    refine ge_one 2 (k' := 0) (listed' := #[true, true, true]) (by kernel_rfl) rfl rfl rfl ?_
    refine gop_store 0 (v := .agg #[_, _]) (cs' := #[_, _]) rfl rfl Tryd.sizeOf23 rfl rfl rfl rfl (Nat.le_of_ble_eq_true rfl) rfl rfl ?_
    refine gops_nil ?_
    refine ge_fin (TK := [room b5 23 2, box b6 _]) rfl (weak_room 0 rfl rfl) ?_
    refine ge_done (by kernel_rfl) ?_
    refine hN5 _ _ ?_
    refine gT [box b5 _, box b6 _] rfl ?_
    refine gfrom [(4, .bool _), (5, .pointer _)] ⟨rfl, rfl, trivial⟩ fun σ => ?_
    refine gret fun w1 hM => ?_
    refine ⟨_, res2 rfl (rt (v := .bool _) rfl) (rc 0 (cs := [_, _]) hM rfl rfl Tryd.isAgg23 Tryd.sizeOf23 rfl), ?_⟩
    exact ⟨by rw [matchV, matchF, if_neg (fun h => hc11 h.1), if_pos hc11], hM.low⟩
  · -- slot 11 f
    replace hc11 := fault_eq.1 hc11
    have hp60 := patFault_size hc11
    refine gskip ?_
    refine hN2 _ _ ?_
    refine gfrom [(0, .string _), (1, .string _), (5, .pointer _)] ⟨rfl, rfl, rfl, trivial⟩ fun σ => ?_
    refine gseq fun N6 hN6 => ?_
    refine gseq fun N7 hN7 => ?_
    refine greg ?_
    refine gop (y_move (v := .string _) rfl) rfl rfl rfl ?_
    refine gop_pure (e_call (vs := [.string _]) Tryd.func42 rfl (by kernel_rfl) rfl) (fun w hM => validPath_any w _) rfl rfl rfl ?_
    refine gop (y_not rfl) rfl rfl rfl ?_
    refine gops_nil ?_
    refine hN7 _ _ ?_
    refine gfrom [(0, .string _), (1, .string _), (5, .pointer _), (15, .bool _)] ⟨rfl, rfl, rfl, rfl, trivial⟩ fun σ => ?_
    refine gcond (b := _) rfl (fun hc15 => ?_) (fun hc15 => ?_)
    · -- slot 15 t
      replace hc15 := not_t hc15
      refine gseq fun N8 hN8 => ?_
      refine greg ?_
      refine gop (y_build (vs := [(0, _), (1, _)]) (cells := #[_, _]) rfl (bd23_0_1 _ _)) rfl rfl rfl ?_
      refine gop (y_assign (v := .bool _) rfl) rfl rfl rfl ?_
      refine gop_store 0 (v := .agg #[_, _]) (cs' := #[_, _]) rfl rfl Tryd.sizeOf23 rfl rfl rfl rfl (Nat.le_of_ble_eq_true rfl) rfl rfl ?_
      refine gops_nil ?_
      refine hN8 _ _ ?_
      refine gT [box b5 _, box b6 _] rfl ?_
      refine gfrom [(4, .bool _), (5, .pointer _)] ⟨rfl, rfl, trivial⟩ fun σ => ?_
      refine gret fun w1 hM => ?_
      refine ⟨_, res2 rfl (rt (v := .bool _) rfl) (rc 0 (cs := [_, _]) hM rfl rfl Tryd.isAgg23 Tryd.sizeOf23 rfl), ?_⟩
      exact ⟨by rw [matchV, matchF, if_neg (fun h => absurd h.2 (by simp [hc15])), if_neg (fun h => h hc11), hc15]; rfl, hM.low⟩
    · -- slot 15 f
      replace hc15 := not_f hc15
      have hs60 := pathOk_size hc15
      refine gskip ?_
      refine hN6 _ _ ?_
      refine gfrom [(0, .string _), (1, .string _), (5, .pointer _)] ⟨rfl, rfl, rfl, trivial⟩ fun σ => ?_
      refine gseq fun N9 hN9 => ?_
      refine greg ?_
      refine gop (y_move (v := .string _) rfl) rfl rfl rfl ?_
      refine gop (y_move (v := .string _) rfl) rfl rfl rfl ?_
      refine gop_pure (e_call (vs := [.string _, .string _]) Tryd.func43 rfl (by kernel_rfl) rfl) (fun w hM => matches_any w _ _ (by omega) (by omega)) rfl rfl rfl ?_
      refine gop (y_build (vs := []) (cells := #[.int .i64 0, .int .i64 0]) rfl bd23_) rfl rfl rfl ?_
      refine gop (y_assign (v := .bool _) rfl) rfl rfl rfl ?_
      refine gop_store 0 (v := .agg #[_, _]) (cs' := #[_, _]) rfl rfl Tryd.sizeOf23 rfl rfl rfl rfl (Nat.le_of_ble_eq_true rfl) rfl rfl ?_
      refine gops_nil ?_
      refine hN9 _ _ ?_
      refine gT [box b5 _, box b6 _] rfl ?_
      refine gfrom [(4, .bool _), (5, .pointer _)] ⟨rfl, rfl, trivial⟩ fun σ => ?_
      refine gret fun w1 hM => ?_
      refine ⟨_, res2 rfl (rt (v := .bool _) rfl) (rc 0 (cs := [_, _]) hM rfl rfl Tryd.isAgg23 Tryd.sizeOf23 rfl), ?_⟩
      exact ⟨by rw [matchV, matchF, if_pos ⟨hc11, hc15⟩, if_neg (fun h => h hc11), hc15]; rfl, hM.low⟩
end Go.Proofs.YtijpaljdclhehaaDoor
