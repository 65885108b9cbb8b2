/- walks, printed by program -/
import Derived.Test.YtijpaljdclhehaaDoorGlobE
namespace Go.Proofs.YtijpaljdclhehaaDoor
open Go.RowKit Go.Cf
set_option maxRecDepth 10000

theorem bd23_0_1 (x1 : Int) (x2 : Int) : Tryd.prog.built 23 [(0, .int .i64 x1), (1, .int .i64 x2)] = some #[.int .i64 x1, .int .i64 x2] := by kernel_rfl
theorem bd23_  : Tryd.prog.built 23 [] = some #[.int .i64 0, .int .i64 0] := by kernel_rfl

set_option maxHeartbeats 1000000 in
theorem validate_any (w : World) (s : ByteArray) : Calls Tryd.prog 38 #[.string s] w fun e w' => e = .returned (fv (patFault s)) ∧ Below w.heap.size w w' := by
  refine gcalls Tryd.func38 rfl Tryd.ntmps38 (Nat.le_of_ble_eq_true rfl) ?_
  refine gfrom [(0, .string _)] ⟨rfl, trivial⟩ fun σ => ?_
  refine gseq fun N1 hN1 => ?_
  refine greg ?_
  refine gop_alloc (cs := #[.int .i64 0, .int .i64 0]) Tryd.zeroValue23 rfl rfl (fun b2 hb2 => ?_)
  refine gops_nil ?_
  refine hN1 _ _ ?_
  refine gT [box b2 _] rfl ?_
  refine gfrom [(0, .string _), (2, .pointer _)] ⟨rfl, rfl, trivial⟩ fun σ => ?_
  refine gseq fun N2 hN2 => ?_
  refine gseq fun N3 hN3 => ?_
  refine greg ?_
  refine gop (y_move (v := .string _) rfl) rfl rfl rfl ?_
  refine gop (y_lens Tryd.underlying9 rfl) rfl rfl rfl ?_
  refine gop (y_gtr rfl rfl) rfl rfl rfl ?_
  refine gops_nil ?_
  refine hN3 _ _ ?_
  refine gfrom [(0, .string _), (2, .pointer _), (7, .bool _)] ⟨rfl, rfl, rfl, trivial⟩ fun σ => ?_
  refine gcond (b := _) rfl (fun hc7 => ?_) (fun hc7 => ?_)
  · -- slot 7 t
    replace hc7 := of_decide_eq_true hc7
    refine gseq fun N4 hN4 => ?_
    refine greg ?_
    refine gop (y_build (vs := [(0, _), (1, _)]) (cells := #[_, _]) rfl (bd23_0_1 _ _)) rfl rfl rfl ?_
    refine gop_store 0 (v := .agg #[_, _]) (cs' := #[_, _]) rfl rfl Tryd.sizeOf23 rfl rfl rfl rfl (Nat.le_of_ble_eq_true rfl) rfl rfl ?_
    refine gops_nil ?_
    refine hN4 _ _ ?_
    refine gT [box b2 _] rfl ?_
    refine gfrom [(2, .pointer _)] ⟨rfl, trivial⟩ fun σ => ?_
    refine gret fun w1 hM => ?_
    refine ⟨_, res1 rfl (rc 0 (cs := [_, _]) hM rfl rfl Tryd.isAgg23 Tryd.sizeOf23 rfl), ?_⟩
    exact ⟨by unfold patFault patCode; rw [if_pos (show 60 < s.size by omega)]; rfl, hM.low⟩
  · -- slot 7 f
    replace hc7 := of_decide_eq_false hc7
    refine gskip ?_
    refine hN2 _ _ ?_
    refine gfrom [(0, .string _), (2, .pointer _)] ⟨rfl, rfl, trivial⟩ fun σ => ?_
    refine gseqAB fun N5 hN5 => ?_
    refine greg ?_
    refine gop (y_move (v := .string _) rfl) rfl rfl rfl ?_
    refine gop_got (fun v T' => ∃ c1 c2 c3, v = .func (.func 102) #[] #[.pointer (some ⟨c1, 0, none⟩), .pointer (some ⟨c2, 0, none⟩), .pointer (some ⟨c3, 0, none⟩)] ∧ T' = [box c2 (.cells #[.string s] 9), box c1 (.cells #[.string ⟨#[47]⟩] 9), box c3 (.cells #[.int .i64 0] 3)]) (e_call (vs := [.string _, _]) Tryd.func64 rfl (by kernel_rfl) rfl) (fun w hM => splitSeqX_any w s) rfl rfl rfl ?_
    rintro _ _ ⟨c1, c2, c3, rfl, rfl⟩
    refine gops_nil ?_
    refine hN5 _ _ ?_
    refine gthen_T [box b2 _, box c2 _, box c1 _, box c3 _] rfl ?_
    refine gthen_from [(2, .pointer _), (10, .func _ _ _)] ⟨rfl, rfl, trivial⟩ fun σ => ?_
    refine grange (lb := [.pointer (some ⟨c1, 0, none⟩), .pointer (some ⟨c2, 0, none⟩), .pointer (some ⟨c3, 0, none⟩)]) (ps := [11]) (xs := cutS s) (fun k => [sure (∀ j (h : j < (cutS s).length), j < k → partCode (cutS s)[j] = 0), box b2 (.cells #[.int .i64 0, .int .i64 0] 23)]) (fun _ => [sure (partsCode (cutS s) ≠ 0), box b2 (.cells #[.int .i64 (partsCode (cutS s) : Nat), .int .i64 (-1)] 23)]) rfl (e_enter Tryd.func102 rfl (by kernel_rfl)) (splitSeq1_iters s (by omega) c1 c2 c3) (fun w hM => (hM.perm (List.Perm.cons _ (List.Perm.swap _ _ _))).sure (fun _ _ h => absurd h (by omega))) (by decide) (fun _ => rfl) ?round ?done ?stop
    case round =>
      intro lR k x q hx NR hNR
      have hxs : x.size ≤ 60 := cutS_size (List.mem_of_getElem? hx) (by omega)
      refine g_fact (fun w hM => hM.known 1 rfl) ?_
      intro hJ
      refine gfrom [(2, .pointer _), (10, .func _ _ _), (11, .string x)] ⟨rfl, rfl, rfl, trivial⟩ fun σ => ?_
      refine greg ?_
      refine gop (y_assign (v := .string x) rfl) rfl rfl rfl ?_
      refine gops_nil ?_
      refine hNR _ _ fun q2 => ?_
      refine gfrom [(2, .pointer _), (3, .string x), (10, .func _ _ _)] ⟨rfl, rfl, rfl, trivial⟩ fun σ => ?_
      refine gblock ?_
      refine gseq fun N6 hN6 => ?_
      refine greg ?_
      refine gop (y_move (v := .string x) rfl) rfl rfl rfl ?_
      refine gop_pure (e_call (vs := [.string x]) Tryd.func65 rfl (by kernel_rfl) rfl) (fun w hM => part_any w _ (by omega)) rfl rfl rfl ?_
      refine gop (y_assign (v := .int _ _) rfl) rfl rfl rfl ?_
      refine gops_nil ?_
      refine hN6 _ _ ?_
      refine gfrom [(2, .pointer _), (3, .string x), (4, .int _ _), (10, .func _ _ _)] ⟨rfl, rfl, rfl, rfl, trivial⟩ fun σ => ?_
      refine gseq fun N7 hN7 => ?_
      refine greg ?_
      refine gop (y_move (v := .int _ _) rfl) rfl rfl rfl ?_
      refine gop (y_neq rfl rfl) rfl rfl rfl ?_
      refine gops_nil ?_
      refine hN7 _ _ ?_
      refine gfrom [(2, .pointer _), (3, .string x), (4, .int _ _), (10, .func _ _ _), (15, .bool _)] ⟨rfl, rfl, rfl, rfl, rfl, trivial⟩ fun σ => ?_
      refine gcond (b := _) rfl (fun hc15 => ?_) (fun hc15 => ?_)
      · -- slot 15 t
        replace hc15 := of_decide_eq_true hc15
        refine gseq fun N8 hN8 => ?_
        refine greg ?_
        refine gop (y_move (v := .int _ _) rfl) rfl rfl rfl ?_
        refine gop (y_build (vs := [(0, .int _ _), (1, _)]) (cells := #[_, _]) rfl (bd23_0_1 _ _)) rfl rfl rfl ?_
        refine gop_store 2 (v := .agg #[_, _]) (cs' := #[_, _]) rfl rfl Tryd.sizeOf23 rfl rfl rfl rfl (Nat.le_of_ble_eq_true rfl) rfl rfl ?_
        refine gops_nil ?_
        refine hN8 _ _ ?_
        refine gT [_, sure _, box b2 _] rfl ?_
        refine gfrom [(2, .pointer _)] ⟨rfl, trivial⟩ fun σ => ?_
        refine gret fun w1 hM => ?_
        have hpc := partsCode_hit hx hJ (by omega)
        rw [← hpc] at hM
        exact hM.resure 1 rfl (by rw [hpc]; omega)
      · -- slot 15 f
        replace hc15 := Decidable.not_not.1 (of_decide_eq_false hc15)
        refine gskip ?_
        intro w1 hM
        exact hM.resure 1 rfl (fun j h hj => by rcases Nat.lt_succ_iff_lt_or_eq.1 hj with h1 | rfl; exact hJ j h h1; have h2 := List.getElem?_eq_some_iff.1 hx; rw [h2.2]; omega)
    case done =>
      intro D qD
      refine gfrom [(2, .pointer _)] ⟨rfl, trivial⟩ fun σ => ?_
      refine g_fact (fun w hM => hM.known 2 rfl) ?_
      intro hJ
      have hz : partsCode (cutS s) = 0 := partsCode_zero (fun j h => hJ j h h)
      refine gseq fun N9 hN9 => ?_
      refine greg ?_
      refine gop (y_build (vs := []) (cells := #[.int .i64 0, .int .i64 0]) rfl bd23_) rfl rfl rfl ?_
      refine gop_store 3 (v := .agg #[_, _]) (cs' := #[_, _]) rfl rfl Tryd.sizeOf23 rfl rfl rfl rfl (Nat.le_of_ble_eq_true rfl) rfl rfl ?_
      refine gops_nil ?_
      refine hN9 _ _ ?_
      refine gT [_, _, sure _, box b2 _] rfl ?_
      refine gfrom [(2, .pointer _)] ⟨rfl, trivial⟩ fun σ => ?_
      refine gret (fin_marked 0 rfl rfl fun w1 hM => ?_)
      refine ⟨_, res1 rfl (rc 3 (cs := [_, _]) hM rfl rfl Tryd.isAgg23 Tryd.sizeOf23 rfl), ?_⟩
      exact ⟨by unfold patFault patCode; rw [if_neg (show ¬ 60 < s.size by omega), hz]; rfl, hM.low⟩
    case stop =>
      intro D qD k hk w1 hM
      refine ⟨_, res1 rfl (rc 3 (cs := [_, _]) hM rfl rfl Tryd.isAgg23 Tryd.sizeOf23 rfl), ?_⟩
      have hne := hM.known 2 rfl
      have hpc : patCode s = partsCode (cutS s) := by unfold patCode; rw [if_neg (by omega)]
      exact ⟨by unfold patFault; rw [hpc, if_neg hne], hM.low⟩

set_option maxHeartbeats 2000000 in
theorem validPath_any (w : World) (s : ByteArray) : Calls Tryd.prog 42 #[.string s] w fun e w' => e = .returned (.bool (pathOk s)) ∧ Below w.heap.size w w' := by
  refine gcalls Tryd.func42 rfl Tryd.ntmps42 (Nat.le_of_ble_eq_true rfl) ?_
  refine gfrom [(0, .string _)] ⟨rfl, trivial⟩ fun σ => ?_
  refine gseq fun N1 hN1 => ?_
  refine greg ?_
  refine gop_alloc (cs := #[.bool false]) Tryd.zeroValue4 rfl rfl (fun b2 hb2 => ?_)
  refine gops_nil ?_
  refine hN1 _ _ ?_
  refine gT [box b2 _] rfl ?_
  refine gfrom [(0, .string _), (2, .pointer _)] ⟨rfl, rfl, trivial⟩ fun σ => ?_
  refine gseq fun N2 hN2 => ?_
  refine gseq fun N3 hN3 => ?_
  refine greg ?_
  refine gop (y_move (v := .string _) rfl) rfl rfl rfl ?_
  refine gop (y_lens Tryd.underlying9 rfl) rfl rfl rfl ?_
  refine gop (y_gtr rfl rfl) rfl rfl rfl ?_
  refine gops_nil ?_
  refine hN3 _ _ ?_
  refine gfrom [(0, .string _), (2, .pointer _), (7, .bool _)] ⟨rfl, rfl, rfl, trivial⟩ fun σ => ?_
  refine gcond (b := _) rfl (fun hc7 => ?_) (fun hc7 => ?_)
  · -- slot 7 t
    replace hc7 := of_decide_eq_true hc7
    refine gseq fun N4 hN4 => ?_
    refine greg ?_
    refine gop_store 0 (v := .bool _) (cs' := #[_]) rfl rfl Tryd.sizeOf4 rfl rfl rfl rfl (Nat.le_of_ble_eq_true rfl) rfl rfl ?_
    refine gops_nil ?_
    refine hN4 _ _ ?_
    refine gT [box b2 _] rfl ?_
    refine gfrom [(2, .pointer _)] ⟨rfl, trivial⟩ fun σ => ?_
    refine gret fun w1 hM => ?_
    refine ⟨_, res1 rfl (rc1 0 hM rfl rfl Tryd.isAgg4), ?_⟩
    exact ⟨by rw [show pathOk s = false by unfold pathOk; rw [decide_eq_false (by omega), Bool.and_false]], hM.low⟩
  · -- slot 7 f
    replace hc7 := of_decide_eq_false hc7
    refine gskip ?_
    refine hN2 _ _ ?_
    refine gfrom [(0, .string _), (2, .pointer _)] ⟨rfl, rfl, trivial⟩ fun σ => ?_
    refine gseqAB fun N5 hN5 => ?_
    refine greg ?_
    refine gop (y_move (v := .string _) rfl) rfl rfl rfl ?_
    refine gop_got (fun v T' => ∃ c1 c2 c3, v = .func (.func 102) #[] #[.pointer (some ⟨c1, 0, none⟩), .pointer (some ⟨c2, 0, none⟩), .pointer (some ⟨c3, 0, none⟩)] ∧ T' = [box c2 (.cells #[.string s] 9), box c1 (.cells #[.string ⟨#[47]⟩] 9), box c3 (.cells #[.int .i64 0] 3)]) (e_call (vs := [.string _, _]) Tryd.func64 rfl (by kernel_rfl) rfl) (fun w hM => splitSeqX_any w s) rfl rfl rfl ?_
    rintro _ _ ⟨c1, c2, c3, rfl, rfl⟩
    refine gops_nil ?_
    refine hN5 _ _ ?_
    refine gthen_T [box b2 _, box c2 _, box c1 _, box c3 _] rfl ?_
    refine gthen_from [(2, .pointer _), (9, .func _ _ _)] ⟨rfl, rfl, trivial⟩ fun σ => ?_
    refine grange (lb := [.pointer (some ⟨c1, 0, none⟩), .pointer (some ⟨c2, 0, none⟩), .pointer (some ⟨c3, 0, none⟩)]) (ps := [10]) (xs := cutS s) (fun k => [sure (∀ j (h : j < (cutS s).length), j < k → nameOk (cutS s)[j] = true), box b2 (.cells #[.bool false] 4)]) (fun _ => [sure (pathOk s = false), box b2 (.cells #[.bool false] 4)]) rfl (e_enter Tryd.func102 rfl (by kernel_rfl)) (splitSeq1_iters s (by omega) c1 c2 c3) (fun w hM => (hM.perm (List.Perm.cons _ (List.Perm.swap _ _ _))).sure (fun _ _ h => absurd h (by omega))) (by decide) (fun _ => rfl) ?round ?done ?stop
    case round =>
      intro lR k x q hx NR hNR
      have hxs : x.size ≤ 60 := cutS_size (List.mem_of_getElem? hx) (by omega)
      refine g_fact (fun w hM => hM.known 1 rfl) ?_
      intro hJ
      refine gfrom [(2, .pointer _), (9, .func _ _ _), (10, .string x)] ⟨rfl, rfl, rfl, trivial⟩ fun σ => ?_
      refine greg ?_
      refine gop (y_assign (v := .string x) rfl) rfl rfl rfl ?_
      refine gops_nil ?_
      refine hNR _ _ fun q2 => ?_
      refine gfrom [(2, .pointer _), (3, .string x), (9, .func _ _ _)] ⟨rfl, rfl, rfl, trivial⟩ fun σ => ?_
      refine gblock ?_
      refine gseq fun N6 hN6 => ?_
      refine gseq fun N7 hN7 => ?_
      refine greg ?_
      refine gop (y_move (v := .string x) rfl) rfl rfl rfl ?_
      refine gop (y_eqls rfl rfl) rfl rfl rfl ?_
      refine gop (y_move (v := .bool _) rfl) rfl rfl rfl ?_
      refine gop_if (want := false) rfl rfl rfl rfl rfl rfl (fun hg13 => ?_) (fun hg13 => ?_)
      · -- guard 13 on
        have hg13d := hg13
        refine gop (y_bare (y_move (v := .string x) rfl)) rfl rfl rfl ?_
        refine gop_on rfl rfl rfl rfl hg13 ?_
        refine gop (y_bare (y_eqls rfl rfl)) rfl rfl rfl ?_
        refine gop (y_pick_f (v := .bool _) rfl hg13 rfl) rfl rfl rfl ?_
        refine gop (y_move (v := .bool _) rfl) rfl rfl rfl ?_
        refine gop_if (want := false) rfl rfl rfl rfl rfl rfl (fun hg17 => ?_) (fun hg17 => ?_)
        · -- guard 17 on
          have hg17d := hg17
          refine gop (y_bare (y_move (v := .string x) rfl)) rfl rfl rfl ?_
          refine gop_on rfl rfl rfl rfl hg17 ?_
          refine gop (y_bare (y_eqls rfl rfl)) rfl rfl rfl ?_
          refine gop (y_pick_f (v := .bool _) rfl hg17 rfl) rfl rfl rfl ?_
          refine gops_nil ?_
          refine hN7 _ _ ?_
          refine gfrom [(2, .pointer _), (3, .string x), (9, .func _ _ _), (20, .bool _)] ⟨rfl, rfl, rfl, rfl, trivial⟩ fun σ => ?_
          refine gcond (b := _) rfl (fun hc20 => ?_) (fun hc20 => ?_)
          · -- slot 20 t
            refine gseq fun N8 hN8 => ?_
            refine greg ?_
            refine gop_store 2 (v := .bool _) (cs' := #[_]) rfl rfl Tryd.sizeOf4 rfl rfl rfl rfl (Nat.le_of_ble_eq_true rfl) rfl rfl ?_
            refine gops_nil ?_
            refine hN8 _ _ ?_
            refine gT [_, sure _, box b2 _] rfl ?_
            refine gfrom [(2, .pointer _)] ⟨rfl, trivial⟩ fun σ => ?_
            refine gret fun w1 hM => ?_
            have hb : nameOk x = false := by simp_all [nameOk, strEq]
            have hp : pathOk s = false := by unfold pathOk; rw [Bool.and_eq_false_iff]; left; rw [List.all_eq_false]; exact ⟨x, List.mem_of_getElem? hx, by simp [hb]⟩
            exact hM.resure 1 rfl hp
          · -- slot 20 f
            refine gskip ?_
            refine hN6 _ _ ?_
            refine gfrom [(2, .pointer _), (3, .string x), (9, .func _ _ _)] ⟨rfl, rfl, rfl, trivial⟩ fun σ => ?_
            refine gseq fun N9 hN9 => ?_
            refine greg ?_
            refine gop (y_move (v := .string x) rfl) rfl rfl rfl ?_
            refine gop (y_lens Tryd.underlying9 rfl) rfl rfl rfl ?_
            refine gop (y_move (v := .int _ _) rfl) rfl rfl rfl ?_
            refine gops_nil ?_
            refine hN9 _ _ ?_
            refine gfrom [(2, .pointer _), (3, .string x), (9, .func _ _ _), (22, .int _ _), (23, .int _ _)] ⟨rfl, rfl, rfl, rfl, rfl, trivial⟩ fun σ => ?_
            refine gblock ?_
            refine gfrom2 [(23, .int _ _)] [(2, .pointer _), (3, .string x), (9, .func _ _ _), (22, .int _ _)] ⟨rfl, trivial⟩ ⟨rfl, rfl, rfl, rfl, trivial⟩ fun σ => ?_
            refine gloop2 (G := Nat) (fun i => i ≤ x.size ∧ ∀ j, j < i → letterB (byteAt x j) = true) (fun i => x.size - i) (fun i => [(23, .int .i64 (i : Int))]) (fun i => []) (0) ?h0 ⟨rfl, trivial⟩ ⟨rfl, rfl, rfl, rfl, trivial⟩ rfl ?round
            case h0 => exact ⟨Nat.zero_le _, fun _ h => absurd h (by omega)⟩
            case round =>
              intro i hφ σ
              obtain ⟨hi, hz⟩ := hφ
              refine gseq fun N10 hN10 => ?_
              refine greg ?_
              refine gop (y_lss rfl rfl) rfl rfl rfl ?_
              refine gops_nil ?_
              refine hN10 _ _ ?_
              refine gfrom [(2, .pointer _), (3, .string x), (9, .func _ _ _), (22, .int _ _), (23, .int _ _), (24, .bool _)] ⟨rfl, rfl, rfl, rfl, rfl, rfl, trivial⟩ fun σ => ?_
              refine gseq fun N11 hN11 => ?_
              refine gcond (b := _) rfl (fun hc24 => ?_) (fun hc24 => ?_)
              · -- slot 24 t
                replace hc24 := of_decide_eq_true hc24
                refine gskip ?_
                refine hN11 _ _ ?_
                refine gfrom [(2, .pointer _), (3, .string x), (9, .func _ _ _), (22, .int _ _), (23, .int _ _)] ⟨rfl, rfl, rfl, rfl, rfl, trivial⟩ fun σ => ?_
                refine gseq fun N12 hN12 => ?_
                refine gblock ?_
                refine gseq fun N13 hN13 => ?_
                refine greg ?_
                refine gop (y_move (v := .int _ _) rfl) rfl rfl rfl ?_
                refine gop (y_assign (v := .int _ _) rfl) rfl rfl rfl ?_
                refine gops_nil ?_
                refine hN13 _ _ ?_
                refine gfrom [(2, .pointer _), (3, .string x), (4, .int _ _), (9, .func _ _ _), (22, .int _ _), (23, .int _ _)] ⟨rfl, rfl, rfl, rfl, rfl, rfl, trivial⟩ fun σ => ?_
                refine gseq fun N14 hN14 => ?_
                refine greg ?_
                refine gop (y_move (v := .string x) rfl) rfl rfl rfl ?_
                refine gop (y_move (v := .int _ _) rfl) rfl rfl rfl ?_
                refine gop (y_stridx (m := i) Tryd.underlying9 rfl rfl (by omega) (by omega) (by omega)) rfl rfl rfl ?_
                refine gop_pure (e_call (vs := [.int _ _]) Tryd.func68 rfl (by kernel_rfl) rfl) (fun w hM => letter_any w _) rfl rfl rfl ?_
                refine gop (y_not rfl) rfl rfl rfl ?_
                refine gops_nil ?_
                refine hN14 _ _ ?_
                refine gfrom [(2, .pointer _), (3, .string x), (9, .func _ _ _), (22, .int _ _), (23, .int _ _), (30, .bool _)] ⟨rfl, rfl, rfl, rfl, rfl, rfl, trivial⟩ fun σ => ?_
                refine gcond (b := _) rfl (fun hc30 => ?_) (fun hc30 => ?_)
                · -- slot 30 t
                  replace hc30 := not_t hc30
                  refine gseq fun N15 hN15 => ?_
                  refine greg ?_
                  refine gop_store 2 (v := .bool _) (cs' := #[_]) rfl rfl Tryd.sizeOf4 rfl rfl rfl rfl (Nat.le_of_ble_eq_true rfl) rfl rfl ?_
                  refine gops_nil ?_
                  refine hN15 _ _ ?_
                  refine gT [_, sure _, box b2 _] rfl ?_
                  refine gfrom [(2, .pointer _)] ⟨rfl, trivial⟩ fun σ => ?_
                  refine gret fun w1 hM => ?_
                  have hb : nameOk x = false := by exact nameOk_bad (k := i) (by omega) (by simpa using hc30)
                  have hp : pathOk s = false := by unfold pathOk; rw [Bool.and_eq_false_iff]; left; rw [List.all_eq_false]; exact ⟨x, List.mem_of_getElem? hx, by simp [hb]⟩
                  exact hM.resure 1 rfl hp
                · -- slot 30 f
                  replace hc30 := not_f hc30
                  refine gskip ?_
                  refine hN12 _ _ ?_
                  refine gfrom [(2, .pointer _), (3, .string x), (9, .func _ _ _), (22, .int _ _), (23, .int _ _)] ⟨rfl, rfl, rfl, rfl, rfl, trivial⟩ fun σ => ?_
                  refine greg ?_
                  refine gop (y_add rfl rfl ⟨by omega, by omega⟩) rfl rfl rfl ?_
                  refine gop (y_move (v := .int _ _) rfl) rfl rfl rfl ?_
                  refine gops_nil ?_
                  refine gnext2 (i + 1) (by omega) (⟨by omega, fun j hj => by rcases Nat.lt_succ_iff_lt_or_eq.1 hj with h1 | rfl; exact hz j h1; simpa using hc30⟩) ⟨rfl, trivial⟩ ⟨rfl, rfl, rfl, rfl, trivial⟩ ⟨_, rfl⟩
              · -- slot 24 f
                replace hc24 := of_decide_eq_false hc24
                refine gexit ?_
                intro w1 hM
                have hok : nameOk x = true := by rw [nameOk_all (fun j hj => hz j (by omega))]; simp_all [strEq]
                exact hM.resure 1 rfl (fun j h hj => by rcases Nat.lt_succ_iff_lt_or_eq.1 hj with h1 | rfl; exact hJ j h h1; have h2 := List.getElem?_eq_some_iff.1 hx; rw [h2.2]; exact hok)
        · -- guard 17 off
          have hg17d := hg17
          refine gop_off rfl rfl rfl rfl hg17 rfl rfl ?_
          refine gop (y_pick_t (v := .bool _) rfl hg17 rfl) rfl rfl rfl ?_
          refine gops_nil ?_
          refine hN7 _ _ ?_
          refine gfrom [(2, .pointer _), (3, .string x), (9, .func _ _ _), (20, .bool _)] ⟨rfl, rfl, rfl, rfl, trivial⟩ fun σ => ?_
          refine gcond (b := _) rfl (fun hc20 => ?_) (fun hc20 => ?_)
          · -- slot 20 t
            refine gseq fun N16 hN16 => ?_
            refine greg ?_
            refine gop_store 2 (v := .bool _) (cs' := #[_]) rfl rfl Tryd.sizeOf4 rfl rfl rfl rfl (Nat.le_of_ble_eq_true rfl) rfl rfl ?_
            refine gops_nil ?_
            refine hN16 _ _ ?_
            refine gT [_, sure _, box b2 _] rfl ?_
            refine gfrom [(2, .pointer _)] ⟨rfl, trivial⟩ fun σ => ?_
            refine gret fun w1 hM => ?_
            have hb : nameOk x = false := by simp_all [nameOk, strEq]
            have hp : pathOk s = false := by unfold pathOk; rw [Bool.and_eq_false_iff]; left; rw [List.all_eq_false]; exact ⟨x, List.mem_of_getElem? hx, by simp [hb]⟩
            exact hM.resure 1 rfl hp
          · -- slot 20 f
            cases hc20
      · -- guard 13 off
        have hg13d := hg13
        refine gop_off rfl rfl rfl rfl hg13 rfl rfl ?_
        refine gop (y_pick_t (v := .bool _) rfl hg13 rfl) rfl rfl rfl ?_
        refine gop (y_move (v := .bool _) rfl) rfl rfl rfl ?_
        refine gop_off rfl rfl rfl rfl rfl rfl rfl ?_
        refine gop_off rfl rfl rfl rfl rfl rfl rfl ?_
        refine gop (y_pick_t (v := .bool _) rfl rfl rfl) rfl rfl rfl ?_
        refine gops_nil ?_
        refine hN7 _ _ ?_
        refine gfrom [(2, .pointer _), (3, .string x), (9, .func _ _ _), (20, .bool _)] ⟨rfl, rfl, rfl, rfl, trivial⟩ fun σ => ?_
        refine gcond (b := _) rfl (fun hc20 => ?_) (fun hc20 => ?_)
        · -- slot 20 t
          refine gseq fun N17 hN17 => ?_
          refine greg ?_
          refine gop_store 2 (v := .bool _) (cs' := #[_]) rfl rfl Tryd.sizeOf4 rfl rfl rfl rfl (Nat.le_of_ble_eq_true rfl) rfl rfl ?_
          refine gops_nil ?_
          refine hN17 _ _ ?_
          refine gT [_, sure _, box b2 _] rfl ?_
          refine gfrom [(2, .pointer _)] ⟨rfl, trivial⟩ fun σ => ?_
          refine gret fun w1 hM => ?_
          have hb : nameOk x = false := by simp_all [nameOk, strEq]
          have hp : pathOk s = false := by unfold pathOk; rw [Bool.and_eq_false_iff]; left; rw [List.all_eq_false]; exact ⟨x, List.mem_of_getElem? hx, by simp [hb]⟩
          exact hM.resure 1 rfl hp
        · -- slot 20 f
          cases hc20
    case done =>
      intro D qD
      refine gfrom [(2, .pointer _)] ⟨rfl, trivial⟩ fun σ => ?_
      refine g_fact (fun w hM => hM.known 2 rfl) ?_
      intro hJ
      have hz : pathOk s = true := by unfold pathOk; rw [List.all_eq_true.2 (fun x hx => by obtain ⟨j, hj, rfl⟩ := List.getElem_of_mem hx; exact hJ j hj hj), decide_eq_true (by omega)]; rfl
      refine gseq fun N18 hN18 => ?_
      refine greg ?_
      refine gop_store 3 (v := .bool _) (cs' := #[_]) rfl rfl Tryd.sizeOf4 rfl rfl rfl rfl (Nat.le_of_ble_eq_true rfl) rfl rfl ?_
      refine gops_nil ?_
      refine hN18 _ _ ?_
      refine gT [_, _, sure _, box b2 _] rfl ?_
      refine gfrom [(2, .pointer _)] ⟨rfl, trivial⟩ fun σ => ?_
      refine gret (fin_marked 0 rfl rfl fun w1 hM => ?_)
      refine ⟨_, res1 rfl (rc1 3 hM rfl rfl Tryd.isAgg4), ?_⟩
      exact ⟨by rw [hz], hM.low⟩
    case stop =>
      intro D qD k hk w1 hM
      refine ⟨_, res1 rfl (rc1 3 hM rfl rfl Tryd.isAgg4), ?_⟩
      have hne := hM.known 2 rfl
      exact ⟨by rw [hne], hM.low⟩
end Go.Proofs.YtijpaljdclhehaaDoor
