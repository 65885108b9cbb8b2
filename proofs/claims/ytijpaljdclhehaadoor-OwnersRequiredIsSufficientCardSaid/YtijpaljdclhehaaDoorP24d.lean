/-
  OwnersRequiredIsSufficient: for all rules, paths and users the law returns true (the tied card).
-/
import Derived.Test.YtijpaljdclhehaaDoorP24c
import Derived.Deep.DeepHandedRow
import Derived.Lib.LaidTab
import Derived.Test.YtijpaljdclhehaaDoorCards
import Derived.Test.YtijpaljdclhehaaDoorProg
import Derived.Test.YtijpaljdclhehaaDoorTie
namespace Go.Proofs.YtijpaljdclhehaaDoor
open Go.RowKit Go.Cf
set_option maxRecDepth 10000
theorem el30 : Elem Tryd.prog 30 1 24 := elem_of (z := .slice none 0 0) (by kernel_rfl) rfl (by decide)
set_option maxHeartbeats 8000000 in
theorem required_any (w : World) (A : Option Addr) (c : Nat) (rs : List RuleC) (hR : RulesR w 0 A c rs) (PA : Option Addr) (pc : Nat) (ps : List ByteArray) (hps : Rdl w 0 1 strCells PA ps) (hpl : ps.length ≤ pc) (hpm : pc ≤ maxLen) :
    Calls Tryd.prog 24 #[.slice A rs.length c, .slice PA ps.length pc] w fun e w' => ∃ v T' og fr, e = .returned (.tuple #[v, fv (reqF (rls rs) ps)]) ∧ T' = [rowl gpCells w.heap.size 30 1 (v) (og), fr] ∧ gps og = reqV (rls rs) ps ∧ (∀ w1, fr.ok w1 → ∀ a ∈ og, GrR w1 w.heap.size a) ∧ Mem w T' w' := by
  have hln := hR.sb.len
  have hmx := hR.sb.max
  unfold maxLen at hmx
  have hpn : ps.length ≤ 9223372036854775807 := by have h9 := Nat.le_trans hpl hpm; unfold maxLen at h9; omega
  refine gcalls Tryd.func24 rfl Tryd.ntmps24 (Nat.le_of_ble_eq_true rfl) ?_
  refine gfrom [(0, .slice _ _ _), (1, .slice _ _ _)] ⟨rfl, rfl, trivial⟩ fun σ => ?_
  refine gseq fun N1 hN1 => ?_
  refine greg ?_
  refine gop (y_assign (v := .slice _ _ _) rfl) rfl rfl rfl ?_
  refine gop_alloc (cs := #[.int .i64 0, .int .i64 0]) Tryd.zeroValue23 rfl rfl (fun b5 hb5 => ?_)
  refine gops_nil ?_
  refine hN1 _ _ ?_
  refine gT [box b5 _] rfl ?_
  refine gfrom [(0, .slice _ _ _), (1, .slice _ _ _), (5, .pointer _)] ⟨rfl, rfl, rfl, trivial⟩ fun σ => ?_
  refine gseq fun N2 hN2 => ?_
  refine gseq fun N3 hN3 => ?_
  refine greg ?_
  refine gop (y_move (v := .slice _ _ _) rfl) rfl rfl rfl ?_
  refine gop_pure (e_call (vs := [.slice _ _ _]) Tryd.func28 rfl (by kernel_rfl) rfl) (fun w hM => ownValidate_any w A c rs (RulesR.lasts.base hR hM)) rfl rfl rfl ?_
  refine gop_alloc (cs := #[.int .i64 0, .int .i64 0]) Tryd.zeroValue23 rfl rfl (fun b6 hb6 => ?_)
  refine gop_store 1 (v := .agg #[_, _]) (cs' := #[_, _]) rfl rfl Tryd.sizeOf23 rfl rfl rfl rfl (Nat.le_of_ble_eq_true rfl) rfl rfl ?_
  refine gops_nil ?_
  refine hN3 _ _ ?_
  refine gT [box b5 _, box b6 _] rfl ?_
  refine gfrom [(0, .slice _ _ _), (1, .slice _ _ _), (5, .pointer _), (6, .pointer _)] ⟨rfl, rfl, rfl, rfl, trivial⟩ fun σ => ?_
  refine gseq fun N4 hN4 => ?_
  refine greg ?_
  refine gop (y_loads (cs := [_, _]) Tryd.isAgg23 Tryd.sizeOf23 rfl rfl (cells_box 1 rfl)) rfl rfl rfl ?_
  refine gop (y_build (vs := []) (cells := #[.int .i64 0, .int .i64 0]) rfl bd23_) rfl rfl rfl ?_
  refine gop (y_bin (vx := .agg #[_, _]) (vy := .agg #[_, _]) rfl rfl (fun w => eg23 _ _ _ _ _ w) (fun w => ne23 _ _ _ _ w)) rfl rfl rfl ?_
  refine gops_nil ?_
  refine hN4 _ _ ?_
  refine gfrom [(0, .slice _ _ _), (1, .slice _ _ _), (5, .pointer _), (6, .pointer _), (19, .bool _)] ⟨rfl, rfl, rfl, rfl, rfl, trivial⟩ fun σ => ?_
  refine gcond (b := _) rfl (fun hc19 => ?_) (fun hc19 => ?_)
  · 
    replace hc19 := fault_ne.1 hc19
    have hFF : reqF (rls rs) ps = rulesF (rls rs) := by rw [reqF, if_pos hc19]
    refine gseq fun N5 hN5 => ?_
    refine greg_e1 [] [(0, room b5 23 2)] (by kernel_rfl) ?_
    refine ge_take 0 (TK := [room b5 23 2, box b6 _]) rfl (by kernel_rfl) (by kernel_rfl) (by kernel_rfl) #[false, true, false] (by kernel_rfl) rfl (y_loads (cs := [_, _]) Tryd.isAgg23 Tryd.sizeOf23 rfl rfl (cells_box 1 rfl)) rfl rfl rfl (weak_room 0 rfl rfl) (listed' := #[true, false, false]) rfl ?_
    refine ge_take 1 (TK := [room b5 23 2, box b6 _]) rfl (by kernel_rfl) (by kernel_rfl) (by kernel_rfl) #[true, false, false] (by kernel_rfl) rfl (y_assign (v := .slice _ _ _) rfl) rfl rfl rfl (weak_room 0 rfl rfl) (listed' := #[true, true, false]) rfl ?_
    refine ge_one 2 (k' := 0) (listed' := #[true, true, true]) (by kernel_rfl) rfl rfl rfl ?_
    refine gop_store 0 (v := .agg #[_, _]) (cs' := #[_, _]) rfl rfl Tryd.sizeOf23 rfl rfl rfl rfl (Nat.le_of_ble_eq_true rfl) rfl rfl ?_
    refine gops_nil ?_
    refine ge_fin (TK := [room b5 23 2, box b6 _]) rfl (weak_room 0 rfl rfl) ?_
    refine ge_done (by kernel_rfl) ?_
    refine hN5 _ _ ?_
    refine gT [box b5 _, box b6 _] rfl ?_
    refine gfrom [(4, .slice _ _ _), (5, .pointer _)] ⟨rfl, rfl, trivial⟩ fun σ => ?_
    refine gret fun w1 hM => ?_
    refine ⟨_, res2 rfl (rt (v := .slice _ _ _) rfl) (rc 0 (cs := [_, _]) hM rfl rfl Tryd.isAgg23 Tryd.sizeOf23 rfl), ?_⟩
    exact ⟨_, _, [], emp, by rw [hFF], rfl, by rw [reqV, if_neg (by rw [hFF]; exact hc19)]; rfl, fun _ _ _ h => (by cases h), (mem_nilrow gpCells 30 1 hM).emp.dropTo 2 rfl⟩
  · 
    replace hc19 := fault_eq.1 hc19
    refine gskip ?_
    refine hN2 _ _ ?_
    refine gfrom [(0, .slice _ _ _), (1, .slice _ _ _), (5, .pointer _)] ⟨rfl, rfl, rfl, trivial⟩ fun σ => ?_
    refine gseq fun N6 hN6 => ?_
    refine gseq fun N7 hN7 => ?_
    refine greg ?_
    refine gop (y_move (v := .slice _ _ _) rfl) rfl rfl rfl ?_
    refine gop (y_len Tryd.underlying37 rfl) rfl rfl rfl ?_
    refine gop (y_gtr rfl rfl) rfl rfl rfl ?_
    refine gops_nil ?_
    refine hN7 _ _ ?_
    refine gfrom [(0, .slice _ _ _), (1, .slice _ _ _), (5, .pointer _), (23, .bool _)] ⟨rfl, rfl, rfl, rfl, trivial⟩ fun σ => ?_
    refine gcond (b := _) rfl (fun hc23 => ?_) (fun hc23 => ?_)
    · 
      replace hc23 := of_decide_eq_true hc23
      have hFF : reqF (rls rs) ps = ⟨2, -2⟩ := by rw [reqF, if_neg (fun h => h hc19), if_pos (by omega)]
      refine gseq fun N8 hN8 => ?_
      refine greg ?_
      refine gop (y_build (vs := [(0, _), (1, _)]) (cells := #[_, _]) rfl (bd23_0_1 _ _)) rfl rfl rfl ?_
      refine gop (y_assign (v := .slice _ _ _) rfl) rfl rfl rfl ?_
      refine gop_store 0 (v := .agg #[_, _]) (cs' := #[_, _]) rfl rfl Tryd.sizeOf23 rfl rfl rfl rfl (Nat.le_of_ble_eq_true rfl) rfl rfl ?_
      refine gops_nil ?_
      refine hN8 _ _ ?_
      refine gT [box b5 _, box b6 _] rfl ?_
      refine gfrom [(4, .slice _ _ _), (5, .pointer _)] ⟨rfl, rfl, trivial⟩ fun σ => ?_
      refine gret fun w1 hM => ?_
      refine ⟨_, res2 rfl (rt (v := .slice _ _ _) rfl) (rc 0 (cs := [_, _]) hM rfl rfl Tryd.isAgg23 Tryd.sizeOf23 rfl), ?_⟩
      exact ⟨_, _, [], emp, by rw [hFF], rfl, by rw [reqV, if_neg (by rw [hFF]; decide)]; rfl, fun _ _ _ h => (by cases h), (mem_nilrow gpCells 30 1 hM).emp.dropTo 2 rfl⟩
    · 
      replace hc23 := of_decide_eq_false hc23
      refine gskip ?_
      refine hN6 _ _ ?_
      refine gfrom [(0, .slice _ _ _), (1, .slice _ _ _), (5, .pointer _)] ⟨rfl, rfl, rfl, trivial⟩ fun σ => ?_
      refine gseq fun N9 hN9 => ?_
      refine greg ?_
      refine gop (y_assign (v := .slice _ _ _) rfl) rfl rfl rfl ?_
      refine gops_nil ?_
      refine hN9 _ _ ?_
      refine gfrom [(0, .slice _ _ _), (1, .slice _ _ _), (5, .pointer _), (7, .slice _ _ _)] ⟨rfl, rfl, rfl, rfl, trivial⟩ fun σ => ?_
      refine gseq fun N10 hN10 => ?_
      refine gseq fun N11 hN11 => ?_
      refine greg ?_
      refine gop (y_move (v := .slice _ _ _) rfl) rfl rfl rfl ?_
      refine gop (y_len Tryd.underlying37 rfl) rfl rfl rfl ?_
      refine gop (y_move (v := .int _ _) rfl) rfl rfl rfl ?_
      refine gops_nil ?_
      refine hN11 _ _ ?_
      refine gfrom [(0, .slice _ _ _), (5, .pointer _), (7, .slice _ _ _), (25, .slice _ _ _), (26, .int _ _), (27, .int _ _)] ⟨rfl, rfl, rfl, rfl, rfl, rfl, trivial⟩ fun σ => ?_
      refine gblock ?_
      refine gnilrow gpCells 30 1 ?_
      refine g_emp ?_
      refine gfrom2 [(7, .slice _ _ _), (27, .int _ _)] [(0, .slice _ _ _), (5, .pointer _), (25, .slice _ _ _), (26, .int _ _)] ⟨rfl, rfl, trivial⟩ ⟨rfl, rfl, rfl, rfl, trivial⟩ fun σ => ?_
      refine gloop2 (G := Nat × Option Addr × Nat × List GroupC × Reg) (fun (k, Av, cv, gs, fr) => k ≤ ps.length ∧ gps gs = (ps.take k).map (findU (rls rs)) ∧ (∀ j (h : j < ps.length), j < k → pathOk ps[j] = true) ∧ (∀ w1, fr.ok w1 → ∀ a ∈ gs, GrR w1 w.heap.size a)) (fun (k, Av, cv, gs, fr) => ps.length - k) (fun (k, Av, cv, gs, fr) => [(7, .slice Av gs.length cv), (27, .int .i64 (k : Int))]) (fun (k, Av, cv, gs, fr) => [(2, rowl gpCells w.heap.size 30 1 (.slice Av gs.length cv) (gs)), (3, fr)]) ((0, none, 0, [], emp)) ?h0 ⟨rfl, rfl, trivial⟩ ⟨rfl, rfl, rfl, rfl, trivial⟩ rfl ?round
      case h0 => exact ⟨Nat.zero_le _, rfl, fun _ _ h => absurd h (by omega), fun _ _ _ h => (by cases h)⟩
      case round =>
        rintro ⟨k, Av, cv, gs, fr⟩ hφ σ
        obtain ⟨hk, hgl, hz, hfr⟩ := hφ
        have hgsl : gs.length = k := by have h8 := congrArg List.length hgl; simp at h8; omega
        refine gT [box b5 _, box b6 _, rowl _ _ _ _ _ _, fr] rfl ?_
        refine gseq fun N12 hN12 => ?_
        refine greg ?_
        refine gop (y_lss rfl rfl) rfl rfl rfl ?_
        refine gops_nil ?_
        refine hN12 _ _ ?_
        refine gfrom [(0, .slice _ _ _), (5, .pointer _), (7, .slice Av _ cv), (25, .slice _ _ _), (26, .int _ _), (27, .int _ _), (28, .bool _)] ⟨rfl, rfl, rfl, rfl, rfl, rfl, rfl, trivial⟩ fun σ => ?_
        refine gseq fun N13 hN13 => ?_
        refine gcond (b := _) rfl (fun hc28 => ?_) (fun hc28 => ?_)
        · 
          replace hc28 := of_decide_eq_true hc28
          have hk1 : k < ps.length := by omega
          obtain ⟨ad, rfl, -, hca⟩ := hps.at_ hk1
          refine gskip ?_
          refine hN13 _ _ ?_
          refine gfrom [(0, .slice _ _ _), (5, .pointer _), (7, .slice Av _ cv), (25, .slice _ _ _), (26, .int _ _), (27, .int _ _)] ⟨rfl, rfl, rfl, rfl, rfl, rfl, trivial⟩ fun σ => ?_
          refine gseq fun N14 hN14 => ?_
          refine gblock ?_
          refine gseq fun N15 hN15 => ?_
          refine greg ?_
          refine gop (y_move (v := .int _ _) rfl) rfl rfl rfl ?_
          refine gop (y_indexAddr (m := k) Tryd.underlying37 Tryd.sizeOf9 rfl rfl (by omega) (by omega) (by omega)) rfl rfl rfl ?_
          refine gop (y_load Tryd.isAgg9 rfl (cell_base (hca 0 _ rfl))) rfl rfl rfl ?_
          refine gop (y_assign (v := .int _ _) rfl) rfl rfl rfl ?_
          refine gop (y_assign (v := .string _) rfl) rfl rfl rfl ?_
          refine gops_nil ?_
          refine hN15 _ _ ?_
          refine gfrom [(0, .slice _ _ _), (5, .pointer _), (7, .slice Av _ cv), (8, .int _ _), (9, .string _), (25, .slice _ _ _), (26, .int _ _), (27, .int _ _)] ⟨rfl, rfl, rfl, rfl, rfl, rfl, rfl, rfl, trivial⟩ fun σ => ?_
          refine gseq fun N16 hN16 => ?_
          refine gseq fun N17 hN17 => ?_
          refine greg ?_
          refine gop (y_move (v := .string _) rfl) rfl rfl rfl ?_
          refine gop_pure (e_call (vs := [.string _]) Tryd.func42 rfl (by kernel_rfl) rfl) (fun w hM => validPath_any w _) rfl rfl rfl ?_
          refine gop (y_not rfl) rfl rfl rfl ?_
          refine gops_nil ?_
          refine hN17 _ _ ?_
          refine gfrom [(0, .slice _ _ _), (5, .pointer _), (7, .slice Av _ cv), (8, .int _ _), (9, .string _), (25, .slice _ _ _), (26, .int _ _), (27, .int _ _), (34, .bool _)] ⟨rfl, rfl, rfl, rfl, rfl, rfl, rfl, rfl, rfl, trivial⟩ fun σ => ?_
          refine gcond (b := _) rfl (fun hc34 => ?_) (fun hc34 => ?_)
          · 
            replace hc34 := not_t hc34
            have hFF : reqF (rls rs) ps = ⟨12, -3 - (k : Int)⟩ := by rw [reqF, if_neg (fun h => h hc19), if_neg (by omega), pathsF_at hk1 hz hc34]
            refine gseq fun N18 hN18 => ?_
            refine greg ?_
            refine gop (y_move (v := .int _ _) rfl) rfl rfl rfl ?_
            refine gop (y_sub rfl rfl ⟨by omega, by omega⟩) rfl rfl rfl ?_
            refine gop (y_build (vs := [(0, _), (1, .int _ _)]) (cells := #[_, _]) rfl (bd23_0_1 _ _)) rfl rfl rfl ?_
            refine gop (y_assign (v := .slice _ _ _) rfl) rfl rfl rfl ?_
            refine gop_store 0 (v := .agg #[_, _]) (cs' := #[_, _]) rfl rfl Tryd.sizeOf23 rfl rfl rfl rfl (Nat.le_of_ble_eq_true rfl) rfl rfl ?_
            refine gops_nil ?_
            refine hN18 _ _ ?_
            refine gT [box b5 _, box b6 _, rowl _ _ _ _ _ _, fr] rfl ?_
            refine gfrom [(4, .slice _ _ _), (5, .pointer _)] ⟨rfl, rfl, trivial⟩ fun σ => ?_
            refine gret fun w1 hM => ?_
            refine ⟨_, res2 rfl (rt (v := .slice _ _ _) rfl) (rc 0 (cs := [_, _]) hM rfl rfl Tryd.isAgg23 Tryd.sizeOf23 rfl), ?_⟩
            exact ⟨_, _, [], emp, by rw [hFF], rfl, by rw [reqV, if_neg (by rw [hFF]; exact fun h => absurd (congrArg Fault.code h) (show ¬ (12 : Int) = 0 by decide))]; rfl, fun _ _ _ h => (by cases h), (mem_nilrow gpCells 30 1 hM).emp.dropTo 4 rfl⟩
          · 
            replace hc34 := not_f hc34
            have hpk : pathOk ps[k] = true := hc34
            refine gskip ?_
            refine hN16 _ _ ?_
            refine gfrom [(0, .slice _ _ _), (5, .pointer _), (7, .slice Av _ cv), (9, .string _), (25, .slice _ _ _), (26, .int _ _), (27, .int _ _)] ⟨rfl, rfl, rfl, rfl, rfl, rfl, rfl, trivial⟩ fun σ => ?_
            refine greg ?_
            refine gop (y_move (v := .slice Av _ cv) rfl) rfl rfl rfl ?_
            refine gop (y_move (v := .slice _ _ _) rfl) rfl rfl rfl ?_
            refine gop (y_move (v := .string _) rfl) rfl rfl rfl ?_
            refine gop_got (fun v T' => ∃ lo, w.heap.size ≤ lo ∧ T' = [rowl intCells lo 3 1 (v) (findU (rls rs) ps[k])]) (e_call (vs := [.slice _ _ _, .string _]) Tryd.func49 rfl (by kernel_rfl) rfl) (fun w hM => (find_any w A c rs (RulesR.lasts.base hR hM) ps[k] (fun a ha => Nat.le_trans (patFault_size (ruleCode_zero (rulesF_each hc19 a.pl (List.mem_map.2 ⟨a, ha, rfl⟩))).1) (by decide)) (Nat.le_trans (pathOk_size hpk) (by decide)) (fun a ha => Nat.le_trans (ruleCode_zero (rulesF_each hc19 a.pl (List.mem_map.2 ⟨a, ha, rfl⟩))).2.1 (by decide))).mono fun _ _ ⟨v, T1, h1, h2, h3⟩ => ⟨v, T1, h1, ⟨_, hM.low.size, h2⟩, h3⟩) rfl rfl rfl ?_
            rintro v41 _ ⟨lo41, hlo41, rfl⟩
            refine gops_fact (fun w hM => row_form (hM.ok _ (List.mem_of_getElem? (i := 4) rfl))) ?_
            rintro ⟨A41, c41, rfl, hc41, hm41, hn41⟩
            refine gops_mem _ (weak_lower 4 rfl hlo41) ?_
            refine gop_lit (vs := [.slice A41 _ c41]) (cells := #[_]) Tryd.underlying44 Tryd.sizeOf30 Tryd.zeroValue30 rfl (by decide) (by decide) rfl rfl rfl rfl (fun b42 hb42 => ?_)
            refine gop_append 2 (f := gpCells) (l2 := [⟨findU (rls rs) ps[k], A41, c41⟩]) Tryd.underlying44 el30 wide_gp (v := .slice Av _ cv) rfl rfl rfl rfl (fun h => by cases h) (by simp [maxLen]; omega) (by simp; omega) (src_box 5 rfl rfl) rfl (fun v43 => ?_)
            refine gops_fact (fun w hM => own_form (hM.own 2 rfl)) ?_
            rintro ⟨A43, c43, rfl, hc43, hm43⟩
            refine gop (y_assign (v := .slice A43 _ c43) rfl) rfl rfl rfl ?_
            refine gops_nil ?_
            refine hN14 _ _ ?_
            refine gT [box b5 _, box b6 _, rowl _ _ _ _ _ _, fr, rowl _ _ _ _ _ _, box b42 _] rfl ?_
            refine gfrom [(0, .slice _ _ _), (5, .pointer _), (7, .slice A43 _ c43), (25, .slice _ _ _), (26, .int _ _), (27, .int _ _)] ⟨rfl, rfl, rfl, rfl, rfl, rfl, trivial⟩ fun σ => ?_
            refine greg ?_
            refine gop (y_add rfl rfl ⟨by omega, by omega⟩) rfl rfl rfl ?_
            refine gop (y_move (v := .int _ _) rfl) rfl rfl rfl ?_
            refine gops_nil ?_
            refine fin_mem _ (weak_all 4 3 rfl) ?_
            refine gnext2 ((k + 1, A43, c43, gs ++ [⟨findU (rls rs) ps[k], A41, c41⟩], both fr (all_ [_, _]))) (by show ps.length - (k + 1) < ps.length - k; omega) (⟨by show k + 1 ≤ _; omega, by show List.map _ _ = _; rw [List.map_append, List.take_succ_eq_append_getElem hk1, List.map_append]; show gps gs ++ _ = _; rw [hgl]; rfl, fun j h hj => by rcases Nat.lt_succ_iff_lt_or_eq.1 hj with h1 | rfl; exact hz j h h1; exact hpk, fun w1 ho a ha => ?hr⟩) ⟨rfl, rfl, trivial⟩ ⟨rfl, rfl, rfl, rfl, trivial⟩ ⟨_, rfl⟩
            case hr =>
              rcases List.mem_append.1 ha with ha | ha
              · exact hfr w1 ho.1 a ha
              · obtain rfl := List.mem_singleton.1 ha
                exact grR_row ho.2.1
        · 
          replace hc28 := of_decide_eq_false hc28
          have hPF : pathsF ps = ⟨0, 0⟩ := pathsF_ok (fun j hj => hz j hj (by omega))
          have hFF : reqF (rls rs) ps = ⟨0, 0⟩ := by rw [reqF, if_neg (fun h => h hc19), if_neg (by omega), hPF]
          have hgs : gps gs = groupsL (rls rs) ps := by rw [hgl, List.take_of_length_le (by omega)]; rfl
          have hgn : gs.length = ps.length := by have h8 := congrArg List.length hgs; simp [groupsL] at h8; exact h8
          refine gexit ?_
          refine hN10 _ _ ?_
          refine gfrom [(5, .pointer _), (7, .slice Av _ cv)] ⟨rfl, rfl, trivial⟩ fun σ => ?_
          refine gseq fun N19 hN19 => ?_
          refine greg ?_
          refine gop (y_assign (v := .slice _ _ _) rfl) rfl rfl rfl ?_
          refine gops_nil ?_
          refine hN19 _ _ ?_
          refine gfrom [(5, .pointer _), (7, .slice Av _ cv), (10, .slice _ _ _)] ⟨rfl, rfl, rfl, trivial⟩ fun σ => ?_
          refine gseq fun N20 hN20 => ?_
          refine gseq fun N21 hN21 => ?_
          refine greg ?_
          refine gop (y_move (v := .slice Av _ cv) rfl) rfl rfl rfl ?_
          refine gop (y_len Tryd.underlying44 rfl) rfl rfl rfl ?_
          refine gop (y_move (v := .int _ _) rfl) rfl rfl rfl ?_
          refine gops_nil ?_
          refine hN21 _ _ ?_
          refine gfrom [(5, .pointer _), (7, .slice Av _ cv), (10, .slice _ _ _), (45, .slice Av _ cv), (46, .int _ _), (47, .int _ _)] ⟨rfl, rfl, rfl, rfl, rfl, rfl, trivial⟩ fun σ => ?_
          refine gblock ?_
          refine gnilrow gpCells 30 1 ?_
          refine gfrom2 [(10, .slice _ _ _), (47, .int _ _)] [(5, .pointer _), (7, .slice Av _ cv), (45, .slice Av _ cv), (46, .int _ _)] ⟨rfl, rfl, trivial⟩ ⟨rfl, rfl, rfl, rfl, trivial⟩ fun σ => ?_
          refine gloop2 (G := Nat × Option Addr × Nat × List GroupC) (fun (k, Bv, dv, og) => k ≤ gs.length ∧ gps og = reqTo (gps gs) k ∧ (∀ a ∈ og, a ∈ gs)) (fun (k, Bv, dv, og) => gs.length - k) (fun (k, Bv, dv, og) => [(10, .slice Bv og.length dv), (47, .int .i64 (k : Int))]) (fun (k, Bv, dv, og) => [(4, rowl gpCells w.heap.size 30 1 (.slice Bv og.length dv) (og))]) ((0, none, 0, [])) ?h0 ⟨rfl, rfl, trivial⟩ ⟨rfl, rfl, rfl, rfl, trivial⟩ rfl ?round
          case h0 => exact ⟨Nat.zero_le _, rfl, fun _ h => (by cases h)⟩
          case round =>
            rintro ⟨k, Bv, dv, og⟩ hφ σ
            obtain ⟨hk, ho, hin⟩ := hφ
            have hol : og.length ≤ k := by have h8 := congrArg List.length ho; have h9 := req_len (gps gs) k; simp only [List.length_map] at h8; omega
            refine gT [box b5 _, box b6 _, rowl _ _ _ _ _ _, fr, rowl _ _ _ _ _ _] rfl ?_
            refine gseq fun N22 hN22 => ?_
            refine greg ?_
            refine gop (y_lss rfl rfl) rfl rfl rfl ?_
            refine gops_nil ?_
            refine hN22 _ _ ?_
            refine gfrom [(5, .pointer _), (7, .slice Av _ cv), (10, .slice Bv _ dv), (45, .slice Av _ cv), (46, .int _ _), (47, .int _ _), (48, .bool _)] ⟨rfl, rfl, rfl, rfl, rfl, rfl, rfl, trivial⟩ fun σ => ?_
            refine gseq fun N23 hN23 => ?_
            refine gcond (b := _) rfl (fun hc48 => ?_) (fun hc48 => ?_)
            · 
              replace hc48 := of_decide_eq_true hc48
              have hk1 : k < gs.length := by omega
              refine g_fact (fun w hM => own_some (hM.own 2 rfl) (by omega)) ?_
              rintro ⟨rg2, cg2, hvg, hcvl, -⟩
              simp only [Value.slice.injEq] at hvg
              obtain ⟨rfl, -, rfl⟩ := hvg
              refine gskip ?_
              refine hN23 _ _ ?_
              refine gfrom [(5, .pointer _), (7, .slice (some ⟨rg2, 0, none⟩) _ _), (10, .slice Bv _ dv), (45, .slice (some ⟨rg2, 0, none⟩) _ _), (46, .int _ _), (47, .int _ _)] ⟨rfl, rfl, rfl, rfl, rfl, rfl, trivial⟩ fun σ => ?_
              refine gseq fun N24 hN24 => ?_
              refine gblock ?_
              refine gseq fun N25 hN25 => ?_
              refine greg ?_
              refine gop (y_move (v := .int _ _) rfl) rfl rfl rfl ?_
              refine gop (y_indexAddr (m := k) Tryd.underlying44 Tryd.sizeOf30 rfl rfl (by omega) (by omega) (by omega)) rfl rfl rfl ?_
              refine gop (y_load Tryd.isAgg30 rfl (cells_rowl 2 (f := gpCells) (l := gs) rfl rfl (fun _ => rfl) (List.getElem?_eq_getElem hk1) 0 _ rfl)) rfl rfl rfl ?_
              refine gop_alloc (cs := #[.slice none 0 0]) Tryd.zeroValue30 rfl rfl (fun b12 hb12 => ?_)
              refine gop (y_assign (v := .int _ _) rfl) rfl rfl rfl ?_
              refine gop_store 5 (v := .slice _ _ _) (cs' := #[_]) rfl rfl Tryd.sizeOf30 rfl rfl rfl rfl (Nat.le_of_ble_eq_true rfl) rfl rfl ?_
              refine gops_nil ?_
              refine hN25 _ _ ?_
              refine gT [box b5 _, box b6 _, rowl _ _ _ _ _ _, fr, rowl _ _ _ _ _ _, box b12 _] rfl ?_
              refine gfrom [(5, .pointer _), (7, .slice (some ⟨rg2, 0, none⟩) _ _), (10, .slice Bv _ dv), (11, .int _ _), (12, .pointer _), (45, .slice (some ⟨rg2, 0, none⟩) _ _), (46, .int _ _), (47, .int _ _)] ⟨rfl, rfl, rfl, rfl, rfl, rfl, rfl, rfl, trivial⟩ fun σ => ?_
              refine gseq fun N26 hN26 => ?_
              refine greg ?_
              refine gop (y_makeFunc (vs := [.pointer (some ⟨b12, 0, none⟩)]) rfl) rfl rfl rfl ?_
              refine gop (y_assign (v := .func (.func 51) #[] #[.pointer (some ⟨b12, 0, none⟩)]) rfl) rfl rfl rfl ?_
              refine gops_nil ?_
              refine hN26 _ _ ?_
              refine gfrom [(5, .pointer _), (7, .slice (some ⟨rg2, 0, none⟩) _ _), (10, .slice Bv _ dv), (11, .int _ _), (12, .pointer _), (13, .func (.func 51) #[] #[.pointer (some ⟨b12, 0, none⟩)]), (45, .slice (some ⟨rg2, 0, none⟩) _ _), (46, .int _ _), (47, .int _ _)] ⟨rfl, rfl, rfl, rfl, rfl, rfl, rfl, rfl, rfl, trivial⟩ fun σ => ?_
              refine gseq fun N27 hN27 => ?_
              refine greg ?_
              refine gop (y_makeFunc (vs := [.pointer (some ⟨b12, 0, none⟩)]) rfl) rfl rfl rfl ?_
              refine gop (y_assign (v := .func (.func 53) #[] #[.pointer (some ⟨b12, 0, none⟩)]) rfl) rfl rfl rfl ?_
              refine gops_nil ?_
              refine hN27 _ _ ?_
              refine gfrom [(5, .pointer _), (7, .slice (some ⟨rg2, 0, none⟩) _ _), (10, .slice Bv _ dv), (11, .int _ _), (12, .pointer _), (13, .func (.func 51) #[] #[.pointer (some ⟨b12, 0, none⟩)]), (14, .func (.func 53) #[] #[.pointer (some ⟨b12, 0, none⟩)]), (45, .slice (some ⟨rg2, 0, none⟩) _ _), (46, .int _ _), (47, .int _ _)] ⟨rfl, rfl, rfl, rfl, rfl, rfl, rfl, rfl, rfl, rfl, trivial⟩ fun σ => ?_
              refine gseq fun N28 hN28 => ?_
              refine greg ?_
              refine gop (y_load Tryd.isAgg30 rfl (cell_box 5 rfl rfl)) rfl rfl rfl ?_
              refine gop (y_len Tryd.underlying30 rfl) rfl rfl rfl ?_
              refine gop (y_gtr rfl rfl) rfl rfl rfl ?_
              refine gop (y_move (v := .bool _) rfl) rfl rfl rfl ?_
              refine gop_if (want := true) rfl rfl rfl rfl rfl rfl (fun hg57 => ?_) (fun hg57 => ?_)
              · 
                have hg57d := of_decide_eq_true hg57
                refine gop (y_bare (y_move (v := .slice (some ⟨rg2, 0, none⟩) _ _) rfl)) rfl rfl rfl ?_
                refine gop_on rfl rfl rfl rfl hg57 ?_
                refine gop (y_bare (y_move (v := .int _ _) rfl)) rfl rfl rfl ?_
                refine gop_on rfl rfl rfl rfl hg57 ?_
                refine gop (y_bare (y_trunc (m := k) Tryd.underlying44 Tryd.sizeOf30 rfl rfl (by omega) (by omega) rfl)) rfl rfl rfl ?_
                refine gop_on rfl rfl rfl rfl hg57 ?_
                refine gop (y_bare (y_move (v := .func (.func 51) #[] #[.pointer (some ⟨b12, 0, none⟩)]) rfl)) rfl rfl rfl ?_
                refine gop_on rfl rfl rfl rfl hg57 ?_
                refine gop_pure (e_call (vs := [.slice _ _ _, .func (.func 51) #[] #[.pointer (some ⟨b12, 0, none⟩)]]) Tryd.func55 rfl (by kernel_rfl) rfl) (fun w hM => by have hcl1 : ∀ k' (h : k' < (gs.take k).length) w1, Below w.heap.size w w1 → Calls Tryd.prog 51 (([.slice (gs.take k)[k'].A (gs.take k)[k'].pl.length (gs.take k)[k'].c] : List Value) ++ [Value.pointer (some ⟨b12, 0, none⟩)]).toArray w1 (fun e w2 => e = .returned (.bool ((fun x : List Int => decide (x = gs[k].pl)) (gs.take k)[k'].pl)) ∧ Below w1.heap.size w1 w2) := (fun k' hk' w1 hb1 => by have hM1 := hM.call hb1; have hg := hfr _ (hM1.ok _ (List.mem_of_getElem? (i := 3) rfl)) (gs.take k)[k'] (List.mem_of_mem_take (List.getElem_mem hk')); have hq := hfr _ (hM1.ok _ (List.mem_of_getElem? (i := 3) rfl)) gs[k] (List.getElem_mem hk1); exact req1_any w1 _ _ _ (hg.rd.mono (Nat.zero_le _)) (Nat.le_trans hg.len hg.max) b12 _ _ _ (hM1.cell 5 rfl rfl) (hq.rd.mono (Nat.zero_le _)) (Nat.le_trans hq.len hq.max)); have h2 : Rdl w 0 1 gpCells (some ⟨rg2, 0, none⟩) (gs.take k) := rdl_take ((row_rdl (f := gpCells) (fun _ => rfl) (hM.ok _ (List.mem_of_getElem? (i := 2) rfl))).mono (Nat.zero_le _)) k; have hc := contFuncG_any w _ cv (gs.take k) h2 (by simp [maxLen]; omega) k (by simp; omega) 51 _ Tryd.func51 (by kernel_rfl) (by kernel_rfl) [Value.pointer (some ⟨b12, 0, none⟩)] (fun x : List Int => decide (x = gs[k].pl)) hcl1; exact hc) rfl rfl rfl ?_
                refine gop_on rfl rfl rfl rfl hg57 ?_
                refine gop (y_bare (y_not rfl)) rfl rfl rfl ?_
                refine gop (y_pick_t (v := .bool _) rfl hg57 rfl) rfl rfl rfl ?_
                refine gop (y_move (v := .bool _) rfl) rfl rfl rfl ?_
                refine gop_if (want := true) rfl rfl rfl rfl rfl rfl (fun hg65 => ?_) (fun hg65 => ?_)
                · 
                  have hg65d := not_t hg65
                  refine gop (y_bare (y_move (v := .slice (some ⟨rg2, 0, none⟩) _ _) rfl)) rfl rfl rfl ?_
                  refine gop_on rfl rfl rfl rfl hg65 ?_
                  refine gop (y_bare (y_move (v := .func (.func 53) #[] #[.pointer (some ⟨b12, 0, none⟩)]) rfl)) rfl rfl rfl ?_
                  refine gop_on rfl rfl rfl rfl hg65 ?_
                  refine gop_pure (e_call (vs := [.slice (some ⟨rg2, 0, none⟩) _ _, .func (.func 53) #[] #[.pointer (some ⟨b12, 0, none⟩)]]) Tryd.func55 rfl (by kernel_rfl) rfl) (fun w hM => by have hcl2 : ∀ k' (h : k' < (gs).length) w1, Below w.heap.size w w1 → Calls Tryd.prog 53 (([.slice (gs)[k'].A (gs)[k'].pl.length (gs)[k'].c] : List Value) ++ [Value.pointer (some ⟨b12, 0, none⟩)]).toArray w1 (fun e w2 => e = .returned (.bool ((fun x : List Int => smallerL x gs[k].pl) (gs)[k'].pl)) ∧ Below w1.heap.size w1 w2) := (fun k' hk' w1 hb1 => by have hM1 := hM.call hb1; have hg := hfr _ (hM1.ok _ (List.mem_of_getElem? (i := 3) rfl)) (gs)[k'] (List.getElem_mem hk'); have hq := hfr _ (hM1.ok _ (List.mem_of_getElem? (i := 3) rfl)) gs[k] (List.getElem_mem hk1); exact req2_any w1 _ _ _ (hg.rd.mono (Nat.zero_le _)) (Nat.le_trans hg.len hg.max) b12 _ _ _ (hM1.cell 5 rfl rfl) (hq.rd.mono (Nat.zero_le _)) (Nat.le_trans hq.len hq.max)); have h2 : Rdl w 0 1 gpCells (some ⟨rg2, 0, none⟩) gs := (row_rdl (f := gpCells) (fun _ => rfl) (hM.ok _ (List.mem_of_getElem? (i := 2) rfl))).mono (Nat.zero_le _); have hc := contFuncG_any w _ cv gs h2 (by simp [maxLen]; omega) gs.length rfl 53 _ Tryd.func53 (by kernel_rfl) (by kernel_rfl) [Value.pointer (some ⟨b12, 0, none⟩)] (fun x : List Int => smallerL x gs[k].pl) hcl2; exact hc) rfl rfl rfl ?_
                  refine gop_on rfl rfl rfl rfl hg65 ?_
                  refine gop (y_bare (y_not rfl)) rfl rfl rfl ?_
                  refine gop (y_pick_t (v := .bool _) rfl hg65 rfl) rfl rfl rfl ?_
                  refine gops_nil ?_
                  refine hN28 _ _ ?_
                  refine gfrom [(5, .pointer _), (7, .slice (some ⟨rg2, 0, none⟩) _ _), (10, .slice Bv _ dv), (12, .pointer _), (45, .slice (some ⟨rg2, 0, none⟩) _ _), (46, .int _ _), (47, .int _ _), (70, .bool _)] ⟨rfl, rfl, rfl, rfl, rfl, rfl, rfl, rfl, trivial⟩ fun σ => ?_
                  refine gcond (b := _) rfl (fun hc70 => ?_) (fun hc70 => ?_)
                  · 
                    replace hc70 := not_t hc70
                    have hN : needG (gps gs) k = true := need_yes hk1 (by omega) hg65d hc70
                    refine greg ?_
                    refine gop (y_move (v := .slice Bv _ dv) rfl) rfl rfl rfl ?_
                    refine gop (y_load Tryd.isAgg30 rfl (cell_box 5 rfl rfl)) rfl rfl rfl ?_
                    refine gop_lit (vs := [.slice _ _ _]) (cells := #[_]) Tryd.underlying44 Tryd.sizeOf30 Tryd.zeroValue30 rfl (by decide) (by decide) rfl rfl rfl rfl (fun b73 hb73 => ?_)
                    refine gop_append 4 (f := gpCells) (l2 := [gs[k]]) Tryd.underlying44 el30 wide_gp (v := .slice Bv _ dv) rfl rfl rfl rfl (fun h => by cases h) (by simp [maxLen]; omega) (by simp; omega) (src_box 6 rfl rfl) rfl (fun v74 => ?_)
                    refine gops_fact (fun w hM => own_form (hM.own 4 rfl)) ?_
                    rintro ⟨A74, c74, rfl, hc74, hm74⟩
                    refine gop (y_assign (v := .slice A74 _ c74) rfl) rfl rfl rfl ?_
                    refine gops_nil ?_
                    refine hN24 _ _ ?_
                    refine gT [box b5 _, box b6 _, rowl _ _ _ _ _ _, fr, rowl _ _ _ _ _ _, box b12 _, box b73 _] rfl ?_
                    refine gfrom [(5, .pointer _), (7, .slice (some ⟨rg2, 0, none⟩) _ _), (10, .slice A74 _ c74), (45, .slice (some ⟨rg2, 0, none⟩) _ _), (46, .int _ _), (47, .int _ _)] ⟨rfl, rfl, rfl, rfl, rfl, rfl, trivial⟩ fun σ => ?_
                    refine greg ?_
                    refine gop (y_add rfl rfl ⟨by omega, by omega⟩) rfl rfl rfl ?_
                    refine gop (y_move (v := .int _ _) rfl) rfl rfl rfl ?_
                    refine gops_nil ?_
                    refine gnext2 ((k + 1, A74, c74, og ++ [gs[k]])) (by show gs.length - (k + 1) < gs.length - k; omega) (⟨by show k + 1 ≤ _; omega, req_gs_yes hk1 ho hN, fun a ha => (List.mem_append.1 ha).elim (hin a) (fun h1 => by rw [List.mem_singleton.1 h1]; exact List.getElem_mem hk1)⟩) ⟨rfl, rfl, trivial⟩ ⟨rfl, rfl, rfl, rfl, trivial⟩ ⟨_, rfl⟩
                  · 
                    replace hc70 := not_f hc70
                    have hN : needG (gps gs) k = false := by first | exact need_no1 hk1 (by omega) | exact need_no2 hk1 hg65d | exact need_no3 hk1 hc70
                    refine gskip ?_
                    refine hN24 _ _ ?_
                    refine gfrom [(5, .pointer _), (7, .slice (some ⟨rg2, 0, none⟩) _ _), (10, .slice Bv _ dv), (45, .slice (some ⟨rg2, 0, none⟩) _ _), (46, .int _ _), (47, .int _ _)] ⟨rfl, rfl, rfl, rfl, rfl, rfl, trivial⟩ fun σ => ?_
                    refine greg ?_
                    refine gop (y_add rfl rfl ⟨by omega, by omega⟩) rfl rfl rfl ?_
                    refine gop (y_move (v := .int _ _) rfl) rfl rfl rfl ?_
                    refine gops_nil ?_
                    refine gnext2 ((k + 1, Bv, dv, og)) (by show gs.length - (k + 1) < gs.length - k; omega) (⟨by show k + 1 ≤ _; omega, req_gs_no ho hN, hin⟩) ⟨rfl, rfl, trivial⟩ ⟨rfl, rfl, rfl, rfl, trivial⟩ ⟨_, rfl⟩
                · 
                  have hg65d := not_f hg65
                  refine gop_off rfl rfl rfl rfl hg65 rfl rfl ?_
                  refine gop_off rfl rfl rfl rfl hg65 rfl rfl ?_
                  refine gop_off rfl rfl rfl rfl hg65 rfl rfl ?_
                  refine gop (y_pick_f (v := .bool _) rfl hg65 rfl) rfl rfl rfl ?_
                  refine gops_nil ?_
                  refine hN28 _ _ ?_
                  refine gfrom [(5, .pointer _), (7, .slice (some ⟨rg2, 0, none⟩) _ _), (10, .slice Bv _ dv), (12, .pointer _), (45, .slice (some ⟨rg2, 0, none⟩) _ _), (46, .int _ _), (47, .int _ _), (70, .bool _)] ⟨rfl, rfl, rfl, rfl, rfl, rfl, rfl, rfl, trivial⟩ fun σ => ?_
                  refine gcond (b := _) rfl (fun hc70 => ?_) (fun hc70 => ?_)
                  · 
                    cases hc70
                  · 
                    have hN : needG (gps gs) k = false := by first | exact need_no1 hk1 (by omega) | exact need_no2 hk1 hg65d | exact need_no3 hk1 hc70
                    refine gskip ?_
                    refine hN24 _ _ ?_
                    refine gfrom [(5, .pointer _), (7, .slice (some ⟨rg2, 0, none⟩) _ _), (10, .slice Bv _ dv), (45, .slice (some ⟨rg2, 0, none⟩) _ _), (46, .int _ _), (47, .int _ _)] ⟨rfl, rfl, rfl, rfl, rfl, rfl, trivial⟩ fun σ => ?_
                    refine greg ?_
                    refine gop (y_add rfl rfl ⟨by omega, by omega⟩) rfl rfl rfl ?_
                    refine gop (y_move (v := .int _ _) rfl) rfl rfl rfl ?_
                    refine gops_nil ?_
                    refine gnext2 ((k + 1, Bv, dv, og)) (by show gs.length - (k + 1) < gs.length - k; omega) (⟨by show k + 1 ≤ _; omega, req_gs_no ho hN, hin⟩) ⟨rfl, rfl, trivial⟩ ⟨rfl, rfl, rfl, rfl, trivial⟩ ⟨_, rfl⟩
              · 
                have hg57d := of_decide_eq_false hg57
                refine gop_off rfl rfl rfl rfl hg57 rfl rfl ?_
                refine gop_off rfl rfl rfl rfl hg57 rfl rfl ?_
                refine gop_off rfl rfl rfl rfl hg57 rfl rfl ?_
                refine gop_off rfl rfl rfl rfl hg57 rfl rfl ?_
                refine gop_off rfl rfl rfl rfl hg57 rfl rfl ?_
                refine gop (y_pick_f (v := .bool _) rfl hg57 rfl) rfl rfl rfl ?_
                refine gop (y_move (v := .bool _) rfl) rfl rfl rfl ?_
                refine gop_off rfl rfl rfl rfl rfl rfl rfl ?_
                refine gop_off rfl rfl rfl rfl rfl rfl rfl ?_
                refine gop_off rfl rfl rfl rfl rfl rfl rfl ?_
                refine gop_off rfl rfl rfl rfl rfl rfl rfl ?_
                refine gop (y_pick_f (v := .bool _) rfl rfl rfl) rfl rfl rfl ?_
                refine gops_nil ?_
                refine hN28 _ _ ?_
                refine gfrom [(5, .pointer _), (7, .slice (some ⟨rg2, 0, none⟩) _ _), (10, .slice Bv _ dv), (12, .pointer _), (45, .slice (some ⟨rg2, 0, none⟩) _ _), (46, .int _ _), (47, .int _ _), (70, .bool _)] ⟨rfl, rfl, rfl, rfl, rfl, rfl, rfl, rfl, trivial⟩ fun σ => ?_
                refine gcond (b := _) rfl (fun hc70 => ?_) (fun hc70 => ?_)
                · 
                  cases hc70
                · 
                  have hN : needG (gps gs) k = false := by first | exact need_no1 hk1 (by omega) | exact need_no2 hk1 hg65d | exact need_no3 hk1 hc70
                  refine gskip ?_
                  refine hN24 _ _ ?_
                  refine gfrom [(5, .pointer _), (7, .slice (some ⟨rg2, 0, none⟩) _ _), (10, .slice Bv _ dv), (45, .slice (some ⟨rg2, 0, none⟩) _ _), (46, .int _ _), (47, .int _ _)] ⟨rfl, rfl, rfl, rfl, rfl, rfl, trivial⟩ fun σ => ?_
                  refine greg ?_
                  refine gop (y_add rfl rfl ⟨by omega, by omega⟩) rfl rfl rfl ?_
                  refine gop (y_move (v := .int _ _) rfl) rfl rfl rfl ?_
                  refine gops_nil ?_
                  refine gnext2 ((k + 1, Bv, dv, og)) (by show gs.length - (k + 1) < gs.length - k; omega) (⟨by show k + 1 ≤ _; omega, req_gs_no ho hN, hin⟩) ⟨rfl, rfl, trivial⟩ ⟨rfl, rfl, rfl, rfl, trivial⟩ ⟨_, rfl⟩
            · 
              replace hc48 := of_decide_eq_false hc48
              have hV : gps og = reqV (rls rs) ps := by rw [reqV, if_pos hFF, ← hgs, ← hgn, ho, show k = gs.length by omega]
              refine gexit ?_
              refine hN20 _ _ ?_
              refine gfrom [(5, .pointer _), (10, .slice Bv _ dv)] ⟨rfl, rfl, trivial⟩ fun σ => ?_
              refine gseq fun N29 hN29 => ?_
              refine greg ?_
              refine gop (y_move (v := .slice Bv _ dv) rfl) rfl rfl rfl ?_
              refine gop (y_build (vs := []) (cells := #[.int .i64 0, .int .i64 0]) rfl bd23_) rfl rfl rfl ?_
              refine gop (y_assign (v := .slice Bv _ dv) rfl) rfl rfl rfl ?_
              refine gop_store 0 (v := .agg #[_, _]) (cs' := #[_, _]) rfl rfl Tryd.sizeOf23 rfl rfl rfl rfl (Nat.le_of_ble_eq_true rfl) rfl rfl ?_
              refine gops_nil ?_
              refine hN29 _ _ ?_
              refine gT [box b5 _, box b6 _, rowl _ _ _ _ _ _, fr, rowl _ _ _ _ _ _] rfl ?_
              refine gfrom [(4, .slice Bv _ dv), (5, .pointer _)] ⟨rfl, rfl, trivial⟩ fun σ => ?_
              refine gret fun w1 hM => ?_
              refine ⟨_, res2 rfl (rt (v := .slice Bv _ dv) rfl) (rc 0 (cs := [_, _]) hM rfl rfl Tryd.isAgg23 Tryd.sizeOf23 rfl), ?_⟩
              exact ⟨_, _, og, fr, by rw [hFF], rfl, hV, fun w1 h1 a ha => hfr w1 h1 a (hin a ha), (weak_toend 3 rfl _ hM).dropTo 3 rfl⟩
end Go.Proofs.YtijpaljdclhehaaDoor
namespace Go.Proofs.YtijpaljdclhehaaDoor
open Go.RowKit Go.Cf
set_option maxRecDepth 10000
set_option maxHeartbeats 2000000 in
theorem meets_any (w : World) (A : Option Addr) (c : Nat) (a : List Int) (ha : Rdl w 0 1 intCells A a) (han : a.length ≤ maxLen) (B : Option Addr) (d : Nat) (b : List Int) (hb : Rdl w 0 1 intCells B b) (hbn : b.length ≤ maxLen) : Calls Tryd.prog 25 #[.slice A a.length c, .slice B b.length d] w fun e w' => e = .returned (.bool (meetsB a b)) ∧ Below w.heap.size w w' := by
  unfold maxLen at han hbn
  refine gcalls Tryd.func25 rfl Tryd.ntmps25 (Nat.le_of_ble_eq_true rfl) ?_
  refine gfrom [(0, .slice _ _ _), (1, .slice _ _ _)] ⟨rfl, rfl, trivial⟩ fun σ => ?_
  refine gseq fun N1 hN1 => ?_
  refine greg ?_
  refine gop (y_assign (v := .bool _) rfl) rfl rfl rfl ?_
  refine gops_nil ?_
  refine hN1 _ _ ?_
  refine gfrom [(0, .slice _ _ _), (1, .slice _ _ _)] ⟨rfl, rfl, trivial⟩ fun σ => ?_
  refine gseq fun N2 hN2 => ?_
  refine gseq fun N3 hN3 => ?_
  refine greg ?_
  refine gop (y_assign (v := .int _ _) rfl) rfl rfl rfl ?_
  refine gops_nil ?_
  refine hN3 _ _ ?_
  refine gfrom [(0, .slice _ _ _), (1, .slice _ _ _), (5, .int _ _)] ⟨rfl, rfl, rfl, trivial⟩ fun σ => ?_
  refine gblock ?_
  refine gfrom2 [(5, .int _ _)] [(0, .slice _ _ _), (1, .slice _ _ _)] ⟨rfl, trivial⟩ ⟨rfl, rfl, trivial⟩ fun σ => ?_
  refine gloop2 (G := Nat) (fun k => k ≤ a.length ∧ ∀ j (h : j < a.length), j < k → hasI b a[j] = false) (fun k => a.length - k) (fun k => [(5, .int .i64 (k : Int))]) (fun k => []) (0) ?h0 ⟨rfl, trivial⟩ ⟨rfl, rfl, trivial⟩ rfl ?round
  case h0 => exact ⟨Nat.zero_le _, fun _ _ h => absurd h (by omega)⟩
  case round =>
    intro k hφ σ
    obtain ⟨hk, hz⟩ := hφ
    refine gseq fun N4 hN4 => ?_
    refine gseq fun N5 hN5 => ?_
    refine greg ?_
    refine gop (y_move (v := .int _ _) rfl) rfl rfl rfl ?_
    refine gop (y_move (v := .slice _ _ _) rfl) rfl rfl rfl ?_
    refine gop (y_len Tryd.underlying30 rfl) rfl rfl rfl ?_
    refine gop (y_lss rfl rfl) rfl rfl rfl ?_
    refine gops_nil ?_
    refine hN5 _ _ ?_
    refine gfrom [(0, .slice _ _ _), (1, .slice _ _ _), (5, .int _ _), (10, .bool _)] ⟨rfl, rfl, rfl, rfl, trivial⟩ fun σ => ?_
    refine gcond (b := _) rfl (fun hc10 => ?_) (fun hc10 => ?_)
    · 
      replace hc10 := of_decide_eq_true hc10
      have hk1 : k < a.length := by omega
      obtain ⟨ad, rfl, -, hca⟩ := ha.at_ hk1
      refine gskip ?_
      refine hN4 _ _ ?_
      refine gfrom [(0, .slice _ _ _), (1, .slice _ _ _), (5, .int _ _)] ⟨rfl, rfl, rfl, trivial⟩ fun σ => ?_
      refine gseq fun N6 hN6 => ?_
      refine gblock ?_
      refine gseq fun N7 hN7 => ?_
      refine greg ?_
      refine gop (y_assign (v := .int _ _) rfl) rfl rfl rfl ?_
      refine gops_nil ?_
      refine hN7 _ _ ?_
      refine gfrom [(0, .slice _ _ _), (1, .slice _ _ _), (5, .int _ _), (6, .int _ _)] ⟨rfl, rfl, rfl, rfl, trivial⟩ fun σ => ?_
      refine gblock ?_
      refine gfrom2 [(6, .int _ _)] [(0, .slice _ _ _), (1, .slice _ _ _), (5, .int _ _)] ⟨rfl, trivial⟩ ⟨rfl, rfl, rfl, trivial⟩ fun σ => ?_
      refine gloop2 (G := Nat) (fun j => j ≤ b.length ∧ ∀ i (h : i < b.length), i < j → a[k] ≠ b[i]) (fun j => b.length - j) (fun j => [(6, .int .i64 (j : Int))]) (fun j => []) (0) ?h0 ⟨rfl, trivial⟩ ⟨rfl, rfl, rfl, trivial⟩ rfl ?round
      case h0 => exact ⟨Nat.zero_le _, fun _ _ h => absurd h (by omega)⟩
      case round =>
        intro j hφ σ
        obtain ⟨hj, hz2⟩ := hφ
        refine gseq fun N8 hN8 => ?_
        refine gseq fun N9 hN9 => ?_
        refine greg ?_
        refine gop (y_move (v := .int _ _) rfl) rfl rfl rfl ?_
        refine gop (y_move (v := .slice _ _ _) rfl) rfl rfl rfl ?_
        refine gop (y_len Tryd.underlying30 rfl) rfl rfl rfl ?_
        refine gop (y_lss rfl rfl) rfl rfl rfl ?_
        refine gops_nil ?_
        refine hN9 _ _ ?_
        refine gfrom [(0, .slice _ _ _), (1, .slice _ _ _), (5, .int _ _), (6, .int _ _), (16, .bool _)] ⟨rfl, rfl, rfl, rfl, rfl, trivial⟩ fun σ => ?_
        refine gcond (b := _) rfl (fun hc16 => ?_) (fun hc16 => ?_)
        · 
          replace hc16 := of_decide_eq_true hc16
          have hj1 : j < b.length := by omega
          obtain ⟨ad', rfl, -, hcb⟩ := hb.at_ hj1
          refine gskip ?_
          refine hN8 _ _ ?_
          refine gfrom [(0, .slice _ _ _), (1, .slice _ _ _), (5, .int _ _), (6, .int _ _)] ⟨rfl, rfl, rfl, rfl, trivial⟩ fun σ => ?_
          refine gseq fun N10 hN10 => ?_
          refine gblock ?_
          refine gseq fun N11 hN11 => ?_
          refine greg_q (by kernel_rfl) (by kernel_rfl) ?_
          refine gq (y_move (v := .slice _ _ _) rfl) rfl rfl rfl ?_
          refine gq (y_move (v := .int _ _) rfl) rfl rfl rfl ?_
          refine gq (y_indexAddr (m := k) Tryd.underlying30 Tryd.sizeOf3 rfl rfl (by omega) (by omega) (by omega)) rfl rfl rfl ?_
          refine gq (y_load Tryd.isAgg3 rfl (cell_base (hca 0 _ rfl))) rfl rfl rfl ?_
          refine gq (y_move (v := .slice _ _ _) rfl) rfl rfl rfl ?_
          refine gq (y_move (v := .int _ _) rfl) rfl rfl rfl ?_
          refine gq (y_indexAddr (m := j) Tryd.underlying30 Tryd.sizeOf3 rfl rfl (by omega) (by omega) (by omega)) rfl rfl rfl ?_
          refine gq (y_load Tryd.isAgg3 rfl (cell_base (hcb 0 _ rfl))) rfl rfl rfl ?_
          refine gq (y_eql rfl rfl) rfl rfl rfl ?_
          refine gqs_nil ?_
          refine hN11 _ _ ?_
          refine gfrom [(0, .slice _ _ _), (1, .slice _ _ _), (5, .int _ _), (6, .int _ _), (27, .bool _)] ⟨rfl, rfl, rfl, rfl, rfl, trivial⟩ fun σ => ?_
          refine gcond (b := _) rfl (fun hc27 => ?_) (fun hc27 => ?_)
          · 
            replace hc27 := of_decide_eq_true hc27
            refine gseq fun N12 hN12 => ?_
            refine greg ?_
            refine gop (y_assign (v := .bool _) rfl) rfl rfl rfl ?_
            refine gops_nil ?_
            refine hN12 _ _ ?_
            refine gfrom [(4, .bool _)] ⟨rfl, trivial⟩ fun σ => ?_
            refine gret fun w1 hM => ?_
            refine ⟨_, res1 rfl (rt (v := .bool _) rfl), ?_⟩
            exact ⟨by rw [meetsB_yes hk1 (hasI_yes hj1 hc27)], hM.low⟩
          · 
            replace hc27 := of_decide_eq_false hc27
            refine gskip ?_
            refine hN10 _ _ ?_
            refine gfrom [(0, .slice _ _ _), (1, .slice _ _ _), (5, .int _ _), (6, .int _ _)] ⟨rfl, rfl, rfl, rfl, trivial⟩ fun σ => ?_
            refine greg ?_
            refine gop (y_move (v := .int _ _) rfl) rfl rfl rfl ?_
            refine gop (y_add rfl rfl ⟨by omega, by omega⟩) rfl rfl rfl ?_
            refine gop (y_assign (v := .int _ _) rfl) rfl rfl rfl ?_
            refine gops_nil ?_
            refine gnext2 (j + 1) (by omega) (⟨by omega, fun i h hi => by rcases Nat.lt_succ_iff_lt_or_eq.1 hi with h1 | rfl; exact hz2 i h h1; exact hc27⟩) ⟨rfl, trivial⟩ ⟨rfl, rfl, rfl, trivial⟩ ⟨_, rfl⟩
        · 
          replace hc16 := of_decide_eq_false hc16
          have hno : hasI b a[k] = false := hasI_no (fun i h => hz2 i h (by omega))
          refine gexit ?_
          refine hN6 _ _ ?_
          refine gfrom [(0, .slice _ _ _), (1, .slice _ _ _), (5, .int _ _)] ⟨rfl, rfl, rfl, trivial⟩ fun σ => ?_
          refine greg ?_
          refine gop (y_move (v := .int _ _) rfl) rfl rfl rfl ?_
          refine gop (y_add rfl rfl ⟨by omega, by omega⟩) rfl rfl rfl ?_
          refine gop (y_assign (v := .int _ _) rfl) rfl rfl rfl ?_
          refine gops_nil ?_
          refine gnext2 (k + 1) (by omega) (⟨by omega, fun j h hj => by rcases Nat.lt_succ_iff_lt_or_eq.1 hj with h1 | rfl; exact hz j h h1; exact hno⟩) ⟨rfl, trivial⟩ ⟨rfl, rfl, trivial⟩ ⟨_, rfl⟩
    · 
      replace hc10 := of_decide_eq_false hc10
      refine gexit ?_
      refine hN2 _ _ ?_
      refine gfrom [] trivial fun σ => ?_
      refine gseq fun N13 hN13 => ?_
      refine greg ?_
      refine gop (y_assign (v := .bool _) rfl) rfl rfl rfl ?_
      refine gops_nil ?_
      refine hN13 _ _ ?_
      refine gfrom [(4, .bool _)] ⟨rfl, trivial⟩ fun σ => ?_
      refine gret fun w1 hM => ?_
      refine ⟨_, res1 rfl (rt (v := .bool _) rfl), ?_⟩
      exact ⟨by rw [meetsB_no (fun j h => hz j h (by omega))], hM.low⟩
end Go.Proofs.YtijpaljdclhehaaDoor
namespace Go.Proofs.YtijpaljdclhehaaDoor
open Go.RowKit Go.Cf
set_option maxRecDepth 10000
set_option maxHeartbeats 4000000 in
theorem law24_any (w : World) (A : Option Addr) (c : Nat) (rs : List RuleC) (hR : RulesR w 0 A c rs) (PA : Option Addr) (pc : Nat) (ps : List ByteArray) (hps : Rdl w 0 1 strCells PA ps) (hpl : ps.length ≤ pc) (hpm : pc ≤ maxLen) (UA : Option Addr) (uc : Nat) (U : List Int) (hU : Rdl w 0 1 intCells UA U) (hul : U.length ≤ uc) (hum : uc ≤ maxLen) : Calls Tryd.prog 8 #[.slice A rs.length c, .slice PA ps.length pc, .slice UA U.length uc] w fun e w' => e = .returned (.bool true) ∧ Below w.heap.size w w' := by
  have hln := hR.sb.len
  have hmx := hR.sb.max
  unfold maxLen at hmx
  have hpn : ps.length ≤ 9223372036854775807 := by have h9 := Nat.le_trans hpl hpm; unfold maxLen at h9; omega
  refine gcalls Tryd.func8 rfl Tryd.ntmps8 (Nat.le_of_ble_eq_true rfl) ?_
  refine gfrom [(0, .slice _ _ _), (1, .slice _ _ _), (2, .slice _ _ _)] ⟨rfl, rfl, rfl, trivial⟩ fun σ => ?_
  refine gseq fun N1 hN1 => ?_
  refine greg ?_
  refine gop (y_assign (v := .bool _) rfl) rfl rfl rfl ?_
  refine gops_nil ?_
  refine hN1 _ _ ?_
  refine gfrom [(0, .slice _ _ _), (1, .slice _ _ _), (2, .slice _ _ _)] ⟨rfl, rfl, rfl, trivial⟩ fun σ => ?_
  refine gseq fun N2 hN2 => ?_
  refine greg ?_
  refine gop (y_move (v := .slice _ _ _) rfl) rfl rfl rfl ?_
  refine gop (y_move (v := .slice _ _ _) rfl) rfl rfl rfl ?_
  refine gop_got (fun v T' => ∃ v1 og fr lo, w.heap.size ≤ lo ∧ v = .tuple #[v1, fv (reqF (rls rs) ps)] ∧ T' = [rowl gpCells lo 30 1 (v1) (og), fr] ∧ gps og = reqV (rls rs) ps ∧ ∀ w1, fr.ok w1 → ∀ a ∈ og, GrR w1 0 a) (e_call (vs := [.slice _ _ _, .slice _ _ _]) Tryd.func24 rfl (by kernel_rfl) rfl) (fun w hM => by have hc := required_any w A c rs (RulesR.lasts.base hR hM) PA pc ps (hps.base hM) hpl hpm; exact hc.mono fun _ _ ⟨v, T1, og, fr, h1, h2, h3, h4, h5⟩ => ⟨_, T1, h1, ⟨v, og, fr, _, hM.low.size, rfl, h2, h3, fun w1 ho a ha => (h4 w1 ho a ha).mono (Nat.zero_le _)⟩, h5⟩) rfl rfl rfl ?_
  rintro _ _ ⟨v18, og, fr, lo18, hlo18, rfl, rfl, hog, hfr⟩
  refine gops_fact (fun w hM => row_form (hM.ok _ (List.mem_of_getElem? (i := 0) rfl))) ?_
  rintro ⟨A18, c18, rfl, hc18, hm18, hn18⟩
  have hogm := Nat.le_trans hc18 hm18
  unfold maxLen at hogm
  refine gop (y_move (v := .tuple #[.slice A18 _ c18, .agg #[_, _]]) rfl) rfl rfl rfl ?_
  refine gop (y_extract (v := .slice _ _ _) rfl rfl) rfl rfl rfl ?_
  refine gop (y_extract (v := .agg #[_, _]) rfl rfl) rfl rfl rfl ?_
  refine gop_alloc (cs := #[.int .i64 0, .int .i64 0]) Tryd.zeroValue23 rfl rfl (fun b8 hb8 => ?_)
  refine gop (y_assign (v := .slice _ _ _) rfl) rfl rfl rfl ?_
  refine gop_store 2 (v := .agg #[_, _]) (cs' := #[_, _]) rfl rfl Tryd.sizeOf23 rfl rfl rfl rfl (Nat.le_of_ble_eq_true rfl) rfl rfl ?_
  refine gops_nil ?_
  refine hN2 _ _ ?_
  refine gT [rowl _ _ _ _ _ _, fr, box b8 _] rfl ?_
  refine gfrom [(0, .slice _ _ _), (1, .slice _ _ _), (2, .slice _ _ _), (7, .slice _ _ _), (8, .pointer _)] ⟨rfl, rfl, rfl, rfl, rfl, trivial⟩ fun σ => ?_
  refine gseq fun N3 hN3 => ?_
  refine gseq fun N4 hN4 => ?_
  refine greg ?_
  refine gop_pure (e_call (vs := []) Tryd.func19 rfl (by kernel_rfl) rfl) (fun w hM => ownersExample_any w) rfl rfl rfl ?_
  refine gop (y_not rfl) rfl rfl rfl ?_
  refine gops_nil ?_
  refine hN4 _ _ ?_
  refine gfrom [(0, .slice _ _ _), (1, .slice _ _ _), (2, .slice _ _ _), (7, .slice _ _ _), (8, .pointer _), (22, .bool _)] ⟨rfl, rfl, rfl, rfl, rfl, rfl, trivial⟩ fun σ => ?_
  refine gcond (b := _) rfl (fun hc22 => ?_) (fun hc22 => ?_)
  · 
     exact absurd hc22 (by decide)
  · 
    replace hc22 := not_f hc22
    refine gskip ?_
    refine hN3 _ _ ?_
    refine gfrom [(0, .slice _ _ _), (1, .slice _ _ _), (2, .slice _ _ _), (7, .slice _ _ _), (8, .pointer _)] ⟨rfl, rfl, rfl, rfl, rfl, trivial⟩ fun σ => ?_
    refine gseq fun N5 hN5 => ?_
    refine gseq fun N6 hN6 => ?_
    refine greg ?_
    refine gop (y_fieldAddr_box fa23_0 rfl) rfl rfl rfl ?_
    refine gop (y_load Tryd.isAgg3 rfl (cell_box 2 rfl rfl)) rfl rfl rfl ?_
    refine gop (y_neq rfl rfl) rfl rfl rfl ?_
    refine gops_nil ?_
    refine hN6 _ _ ?_
    refine gfrom [(0, .slice _ _ _), (1, .slice _ _ _), (2, .slice _ _ _), (7, .slice _ _ _), (25, .bool _)] ⟨rfl, rfl, rfl, rfl, rfl, trivial⟩ fun σ => ?_
    refine gcond (b := _) rfl (fun hc25 => ?_) (fun hc25 => ?_)
    · 
      replace hc25 := of_decide_eq_true hc25
      refine gseq fun N7 hN7 => ?_
      refine greg ?_
      refine gop (y_assign (v := .bool _) rfl) rfl rfl rfl ?_
      refine gops_nil ?_
      refine hN7 _ _ ?_
      refine gfrom [(6, .bool _)] ⟨rfl, trivial⟩ fun σ => ?_
      refine gret fun w1 hM => ?_
      refine ⟨_, res1 rfl (rt (v := .bool _) rfl), ?_⟩
      exact ⟨rfl, hM.low⟩
    · 
      replace hc25 := Decidable.not_not.1 (of_decide_eq_false hc25)
      have hreq := reqF_code hc25
      have h24 := law24_plain hc25 U
      refine gskip ?_
      refine hN5 _ _ ?_
      refine gfrom [(0, .slice _ _ _), (1, .slice _ _ _), (2, .slice _ _ _), (7, .slice _ _ _)] ⟨rfl, rfl, rfl, rfl, trivial⟩ fun σ => ?_
      refine gseq fun N8 hN8 => ?_
      refine greg ?_
      refine gop (y_assign (v := .bool _) rfl) rfl rfl rfl ?_
      refine gops_nil ?_
      refine hN8 _ _ ?_
      refine gfrom [(0, .slice _ _ _), (1, .slice _ _ _), (2, .slice _ _ _), (7, .slice _ _ _), (9, .bool _)] ⟨rfl, rfl, rfl, rfl, rfl, trivial⟩ fun σ => ?_
      refine gseq fun N9 hN9 => ?_
      refine gseq fun N10 hN10 => ?_
      refine greg ?_
      refine gop (y_assign (v := .int _ _) rfl) rfl rfl rfl ?_
      refine gops_nil ?_
      refine hN10 _ _ ?_
      refine gfrom [(0, .slice _ _ _), (1, .slice _ _ _), (2, .slice _ _ _), (7, .slice _ _ _), (9, .bool _), (10, .int _ _)] ⟨rfl, rfl, rfl, rfl, rfl, rfl, trivial⟩ fun σ => ?_
      refine gblock ?_
      refine gfrom2 [(9, .bool _), (10, .int _ _)] [(0, .slice _ _ _), (1, .slice _ _ _), (2, .slice _ _ _), (7, .slice _ _ _)] ⟨rfl, rfl, trivial⟩ ⟨rfl, rfl, rfl, rfl, trivial⟩ fun σ => ?_
      refine gloop2 (G := Nat) (fun i => i ≤ og.length) (fun i => og.length - i) (fun i => [(9, .bool ((og.take i).all (fun a => meetsB a.pl U))), (10, .int .i64 (i : Int))]) (fun i => []) (0) ?h0 ⟨rfl, rfl, trivial⟩ ⟨rfl, rfl, rfl, rfl, trivial⟩ rfl ?round
      case h0 => exact Nat.zero_le _
      case round =>
        intro i hφ σ
        have hi : i ≤ og.length := hφ
        refine gseq fun N11 hN11 => ?_
        refine gseq fun N12 hN12 => ?_
        refine greg ?_
        refine gop (y_move (v := .int _ _) rfl) rfl rfl rfl ?_
        refine gop (y_move (v := .slice _ _ _) rfl) rfl rfl rfl ?_
        refine gop (y_len Tryd.underlying44 rfl) rfl rfl rfl ?_
        refine gop (y_lss rfl rfl) rfl rfl rfl ?_
        refine gops_nil ?_
        refine hN12 _ _ ?_
        refine gfrom [(0, .slice _ _ _), (1, .slice _ _ _), (2, .slice _ _ _), (7, .slice _ _ _), (9, .bool _), (10, .int _ _), (29, .bool _)] ⟨rfl, rfl, rfl, rfl, rfl, rfl, rfl, trivial⟩ fun σ => ?_
        refine gcond (b := _) rfl (fun hc29 => ?_) (fun hc29 => ?_)
        · 
          replace hc29 := of_decide_eq_true hc29
          have hi1 : i < og.length := by omega
          refine g_fact (fun w hM => own_some (hM.own 0 rfl) (by omega)) ?_
          rintro ⟨rg0, cg0, hvg, -, -⟩
          simp only [Value.slice.injEq] at hvg
          obtain ⟨rfl, -, rfl⟩ := hvg
          refine gskip ?_
          refine hN11 _ _ ?_
          refine gfrom [(0, .slice _ _ _), (1, .slice _ _ _), (2, .slice _ _ _), (7, .slice _ _ _), (9, .bool _), (10, .int _ _)] ⟨rfl, rfl, rfl, rfl, rfl, rfl, trivial⟩ fun σ => ?_
          refine gseq fun N13 hN13 => ?_
          refine gblock ?_
          refine greg ?_
          refine gop (y_move (v := .bool _) rfl) rfl rfl rfl ?_
          refine gop (y_move (v := .bool _) rfl) rfl rfl rfl ?_
          refine gop_if (want := true) rfl rfl rfl rfl rfl rfl (fun hg33 => ?_) (fun hg33 => ?_)
          · 
            have hg33d := hg33
            refine gop (y_bare (y_move (v := .slice _ _ _) rfl)) rfl rfl rfl ?_
            refine gop_on rfl rfl rfl rfl hg33 ?_
            refine gop (y_bare (y_move (v := .int _ _) rfl)) rfl rfl rfl ?_
            refine gop_on rfl rfl rfl rfl hg33 ?_
            refine gop (y_bare (y_indexAddr (m := i) Tryd.underlying44 Tryd.sizeOf30 rfl rfl (by omega) (by omega) (by omega))) rfl rfl rfl ?_
            refine gop_on rfl rfl rfl rfl hg33 ?_
            refine gop (y_bare (y_load Tryd.isAgg30 rfl (cells_rowl 0 (f := gpCells) (l := og) rfl rfl (fun _ => rfl) (List.getElem?_eq_getElem hi1) 0 _ rfl))) rfl rfl rfl ?_
            refine gop_on rfl rfl rfl rfl hg33 ?_
            refine gop (y_bare (y_move (v := .slice _ _ _) rfl)) rfl rfl rfl ?_
            refine gop_on rfl rfl rfl rfl hg33 ?_
            refine gop_pure (e_call (vs := [.slice _ _ _, .slice _ _ _]) Tryd.func25 rfl (by kernel_rfl) rfl) (fun w hM => by have hg := (hfr w (hM.ok _ (List.mem_of_getElem? (i := 1) rfl)) og[i] (List.getElem_mem hi1)); exact meets_any w _ _ og[i].pl hg.rd (Nat.le_trans hg.len hg.max) UA uc U (hU.base hM) (Nat.le_trans hul hum)) rfl rfl rfl ?_
            refine gop (y_pick_t (v := .bool _) rfl hg33 rfl) rfl rfl rfl ?_
            refine gop (y_assign (v := .bool _) rfl) rfl rfl rfl ?_
            refine gops_nil ?_
            refine hN13 _ _ ?_
            refine gfrom [(0, .slice _ _ _), (1, .slice _ _ _), (2, .slice _ _ _), (7, .slice _ _ _), (9, .bool _), (10, .int _ _)] ⟨rfl, rfl, rfl, rfl, rfl, rfl, trivial⟩ fun σ => ?_
            refine greg ?_
            refine gop (y_move (v := .int _ _) rfl) rfl rfl rfl ?_
            refine gop (y_add rfl rfl ⟨by omega, by omega⟩) rfl rfl rfl ?_
            refine gop (y_assign (v := .int _ _) rfl) rfl rfl rfl ?_
            refine gops_nil ?_
            refine gnext2 (i + 1) (by omega) (show i + 1 ≤ _ by omega) ⟨congrArg Value.bool (by rw [all_next hi1, hg33d]; rfl), rfl, trivial⟩ ⟨rfl, rfl, rfl, rfl, trivial⟩ ⟨_, rfl⟩
          · 
            have hg33d := hg33
            refine gop_off rfl rfl rfl rfl hg33 rfl rfl ?_
            refine gop_off rfl rfl rfl rfl hg33 rfl rfl ?_
            refine gop_off rfl rfl rfl rfl hg33 rfl rfl ?_
            refine gop_off rfl rfl rfl rfl hg33 rfl rfl ?_
            refine gop_off rfl rfl rfl rfl hg33 rfl rfl ?_
            refine gop (y_pick_f (v := .bool _) rfl hg33 rfl) rfl rfl rfl ?_
            refine gop (y_assign (v := .bool _) rfl) rfl rfl rfl ?_
            refine gops_nil ?_
            refine hN13 _ _ ?_
            refine gfrom [(0, .slice _ _ _), (1, .slice _ _ _), (2, .slice _ _ _), (7, .slice _ _ _), (9, .bool _), (10, .int _ _)] ⟨rfl, rfl, rfl, rfl, rfl, rfl, trivial⟩ fun σ => ?_
            refine greg ?_
            refine gop (y_move (v := .int _ _) rfl) rfl rfl rfl ?_
            refine gop (y_add rfl rfl ⟨by omega, by omega⟩) rfl rfl rfl ?_
            refine gop (y_assign (v := .int _ _) rfl) rfl rfl rfl ?_
            refine gops_nil ?_
            refine gnext2 (i + 1) (by omega) (show i + 1 ≤ _ by omega) ⟨congrArg Value.bool (by rw [all_next hi1, hg33d]; rfl), rfl, trivial⟩ ⟨rfl, rfl, rfl, rfl, trivial⟩ ⟨_, rfl⟩
        · 
          replace hc29 := of_decide_eq_false hc29
          have hE1 : (og.take i).all (fun a => meetsB a.pl U) = (reqV (rls rs) ps).all (fun g => meetsB g U) := by rw [List.take_of_length_le (by omega), ← hog, List.all_map]; rfl
          refine gexit ?_
          refine hN9 _ _ ?_
          refine gfrom [(0, .slice _ _ _), (1, .slice _ _ _), (2, .slice _ _ _), (9, .bool _)] ⟨rfl, rfl, rfl, rfl, trivial⟩ fun σ => ?_
          refine gseq fun N14 hN14 => ?_
          refine greg ?_
          refine gop (y_assign (v := .bool _) rfl) rfl rfl rfl ?_
          refine gops_nil ?_
          refine hN14 _ _ ?_
          refine gfrom [(0, .slice _ _ _), (1, .slice _ _ _), (2, .slice _ _ _), (9, .bool _), (11, .bool _)] ⟨rfl, rfl, rfl, rfl, rfl, trivial⟩ fun σ => ?_
          refine gseq fun N15 hN15 => ?_
          refine gseq fun N16 hN16 => ?_
          refine greg ?_
          refine gop (y_assign (v := .int _ _) rfl) rfl rfl rfl ?_
          refine gops_nil ?_
          refine hN16 _ _ ?_
          refine gfrom [(0, .slice _ _ _), (1, .slice _ _ _), (2, .slice _ _ _), (9, .bool _), (11, .bool _), (12, .int _ _)] ⟨rfl, rfl, rfl, rfl, rfl, rfl, trivial⟩ fun σ => ?_
          refine gblock ?_
          refine gfrom2 [(11, .bool _), (12, .int _ _)] [(0, .slice _ _ _), (1, .slice _ _ _), (2, .slice _ _ _), (9, .bool _)] ⟨rfl, rfl, trivial⟩ ⟨rfl, rfl, rfl, rfl, trivial⟩ fun σ => ?_
          refine gloop2 (G := Nat) (fun k => k ≤ ps.length) (fun k => ps.length - k) (fun k => [(11, .bool ((ps.take k).all (fun p => decide ((findU (rls rs) p).length = 0) || meetsB (findU (rls rs) p) U))), (12, .int .i64 (k : Int))]) (fun k => []) (0) ?h0 ⟨rfl, rfl, trivial⟩ ⟨rfl, rfl, rfl, rfl, trivial⟩ rfl ?round
          case h0 => exact Nat.zero_le _
          case round =>
            intro k hφ σ
            have hk : k ≤ ps.length := hφ
            refine gseq fun N17 hN17 => ?_
            refine gseq fun N18 hN18 => ?_
            refine greg ?_
            refine gop (y_move (v := .int _ _) rfl) rfl rfl rfl ?_
            refine gop (y_move (v := .slice _ _ _) rfl) rfl rfl rfl ?_
            refine gop (y_len Tryd.underlying37 rfl) rfl rfl rfl ?_
            refine gop (y_lss rfl rfl) rfl rfl rfl ?_
            refine gops_nil ?_
            refine hN18 _ _ ?_
            refine gfrom [(0, .slice _ _ _), (1, .slice _ _ _), (2, .slice _ _ _), (9, .bool _), (11, .bool _), (12, .int _ _), (44, .bool _)] ⟨rfl, rfl, rfl, rfl, rfl, rfl, rfl, trivial⟩ fun σ => ?_
            refine gcond (b := _) rfl (fun hc44 => ?_) (fun hc44 => ?_)
            · 
              replace hc44 := of_decide_eq_true hc44
              have hk1 : k < ps.length := by omega
              obtain ⟨ad, rfl, -, hca⟩ := hps.at_ hk1
              obtain ⟨hoF, hoV⟩ := of_ok hreq.2.1 (hreq.2.2.2 _ (List.getElem_mem hk1))
              refine gskip ?_
              refine hN17 _ _ ?_
              refine gfrom [(0, .slice _ _ _), (1, .slice _ _ _), (2, .slice _ _ _), (9, .bool _), (11, .bool _), (12, .int _ _)] ⟨rfl, rfl, rfl, rfl, rfl, rfl, trivial⟩ fun σ => ?_
              refine gseq fun N19 hN19 => ?_
              refine gblock ?_
              refine gseq fun N20 hN20 => ?_
              refine greg ?_
              refine gop (y_move (v := .slice _ _ _) rfl) rfl rfl rfl ?_
              refine gop (y_move (v := .slice _ _ _) rfl) rfl rfl rfl ?_
              refine gop (y_move (v := .int _ _) rfl) rfl rfl rfl ?_
              refine gop (y_indexAddr (m := k) Tryd.underlying37 Tryd.sizeOf9 rfl rfl (by omega) (by omega) (by omega)) rfl rfl rfl ?_
              refine gop (y_load Tryd.isAgg9 rfl (cell_base (hca 0 _ rfl))) rfl rfl rfl ?_
              refine gop_got (fun v T' => ∃ v1 lo, w.heap.size ≤ lo ∧ v = .tuple #[v1, fv (⟨0, 0⟩)] ∧ T' = [rowl intCells lo 3 1 (v1) (findU (rls rs) ps[k])]) (e_call (vs := [.slice _ _ _, .string _]) Tryd.func18 rfl (by kernel_rfl) rfl) (fun w hM => by have hc := of_any w A c (rs) (RulesR.lasts.base hR hM) ps[k]; rw [hoF, hoV] at hc; exact hc.mono fun _ _ ⟨v, T1, h1, h2, h3⟩ => ⟨_, T1, h1, ⟨v, _, hM.low.size, rfl, h2⟩, h3⟩) rfl rfl rfl ?_
              rintro _ _ ⟨v53, lo53, hlo53, rfl, rfl⟩
              refine gops_fact (fun w hM => row_form (hM.ok _ (List.mem_of_getElem? (i := 3) rfl))) ?_
              rintro ⟨A53, c53, rfl, hc53, hm53, hn53⟩
              refine gops_mem _ (weak_lower 3 rfl hlo53) ?_
              refine gop (y_move (v := .tuple #[.slice A53 _ c53, .agg #[_, _]]) rfl) rfl rfl rfl ?_
              refine gop (y_extract (v := .slice _ _ _) rfl rfl) rfl rfl rfl ?_
              refine gop (y_extract (v := .agg #[_, _]) rfl rfl) rfl rfl rfl ?_
              refine gop_alloc (cs := #[.int .i64 0, .int .i64 0]) Tryd.zeroValue23 rfl rfl (fun b14 hb14 => ?_)
              refine gop (y_assign (v := .slice _ _ _) rfl) rfl rfl rfl ?_
              refine gop_store 4 (v := .agg #[_, _]) (cs' := #[_, _]) rfl rfl Tryd.sizeOf23 rfl rfl rfl rfl (Nat.le_of_ble_eq_true rfl) rfl rfl ?_
              refine gops_nil ?_
              refine hN20 _ _ ?_
              refine gT [rowl _ _ _ _ _ _, fr, box b8 _, rowl _ _ _ _ _ _, box b14 _] rfl ?_
              refine gfrom [(0, .slice _ _ _), (1, .slice _ _ _), (2, .slice _ _ _), (9, .bool _), (11, .bool _), (12, .int _ _), (13, .slice _ _ _), (14, .pointer _)] ⟨rfl, rfl, rfl, rfl, rfl, rfl, rfl, rfl, trivial⟩ fun σ => ?_
              refine gseq fun N21 hN21 => ?_
              refine gseq fun N22 hN22 => ?_
              refine greg ?_
              refine gop (y_fieldAddr_box fa23_0 rfl) rfl rfl rfl ?_
              refine gop (y_load Tryd.isAgg3 rfl (cell_box 4 rfl rfl)) rfl rfl rfl ?_
              refine gop (y_neq rfl rfl) rfl rfl rfl ?_
              refine gops_nil ?_
              refine hN22 _ _ ?_
              refine gfrom [(0, .slice _ _ _), (1, .slice _ _ _), (2, .slice _ _ _), (9, .bool _), (11, .bool _), (12, .int _ _), (13, .slice _ _ _), (58, .bool _)] ⟨rfl, rfl, rfl, rfl, rfl, rfl, rfl, rfl, trivial⟩ fun σ => ?_
              refine gcond (b := _) rfl (fun hc58 => ?_) (fun hc58 => ?_)
              · 
                 exact absurd hc58 (by decide)
              · 
                replace hc58 := Decidable.not_not.1 (of_decide_eq_false hc58)
                refine gskip ?_
                refine hN21 _ _ ?_
                refine gfrom [(0, .slice _ _ _), (1, .slice _ _ _), (2, .slice _ _ _), (9, .bool _), (11, .bool _), (12, .int _ _), (13, .slice _ _ _)] ⟨rfl, rfl, rfl, rfl, rfl, rfl, rfl, trivial⟩ fun σ => ?_
                refine greg ?_
                refine gop (y_move (v := .bool _) rfl) rfl rfl rfl ?_
                refine gop (y_move (v := .bool _) rfl) rfl rfl rfl ?_
                refine gop_if (want := true) rfl rfl rfl rfl rfl rfl (fun hg60 => ?_) (fun hg60 => ?_)
                · 
                  have hg60d := hg60
                  refine gop (y_bare (y_move (v := .slice _ _ _) rfl)) rfl rfl rfl ?_
                  refine gop_on rfl rfl rfl rfl hg60 ?_
                  refine gop (y_bare (y_len Tryd.underlying30 rfl)) rfl rfl rfl ?_
                  refine gop_on rfl rfl rfl rfl hg60 ?_
                  refine gop (y_bare (y_eql rfl rfl)) rfl rfl rfl ?_
                  refine gop_on rfl rfl rfl rfl hg60 ?_
                  refine gop (y_bare (y_move (v := .bool _) rfl)) rfl rfl rfl ?_
                  refine gop_if (want := false) rfl rfl rfl rfl rfl rfl (fun hg64 => ?_) (fun hg64 => ?_)
                  · 
                    have hg64d := of_decide_eq_false hg64
                    refine gop (y_bare (y_move (v := .slice _ _ _) rfl)) rfl rfl rfl ?_
                    refine gop_on rfl rfl rfl rfl hg64 ?_
                    refine gop (y_bare (y_move (v := .slice _ _ _) rfl)) rfl rfl rfl ?_
                    refine gop_on rfl rfl rfl rfl hg64 ?_
                    refine gop_pure (e_call (vs := [.slice _ _ _, .slice _ _ _]) Tryd.func25 rfl (by kernel_rfl) rfl) (fun w hM => by exact meets_any w A53 c53 (findU (rls rs) ps[k]) ((row_rdl (f := intCells) (fun _ => rfl) (hM.ok _ (List.mem_of_getElem? (i := 3) rfl))).mono (Nat.zero_le _)) (Nat.le_trans hc53 hm53) UA uc U (hU.base hM) (Nat.le_trans hul hum)) rfl rfl rfl ?_
                    refine gop_on rfl rfl rfl rfl hg60 ?_
                    refine gop (y_bare (y_pick_f (v := .bool _) rfl hg64 rfl)) rfl rfl rfl ?_
                    refine gop (y_pick_t (v := .bool _) rfl hg60 rfl) rfl rfl rfl ?_
                    refine gop (y_assign (v := .bool _) rfl) rfl rfl rfl ?_
                    refine gops_nil ?_
                    refine hN19 _ _ ?_
                    refine gfrom [(0, .slice _ _ _), (1, .slice _ _ _), (2, .slice _ _ _), (9, .bool _), (11, .bool _), (12, .int _ _)] ⟨rfl, rfl, rfl, rfl, rfl, rfl, trivial⟩ fun σ => ?_
                    refine greg ?_
                    refine gop (y_move (v := .int _ _) rfl) rfl rfl rfl ?_
                    refine gop (y_add rfl rfl ⟨by omega, by omega⟩) rfl rfl rfl ?_
                    refine gop (y_assign (v := .int _ _) rfl) rfl rfl rfl ?_
                    refine gops_nil ?_
                    refine gnext2 (k + 1) (by omega) (show k + 1 ≤ _ by omega) ⟨congrArg Value.bool (by rw [all_next hk1, hg60d, decide_eq_false (show ¬ (findU (rls rs) ps[k]).length = 0 by omega)]; rfl), rfl, trivial⟩ ⟨rfl, rfl, rfl, rfl, trivial⟩ ⟨_, rfl⟩
                  · 
                    have hg64d := of_decide_eq_true hg64
                    refine gop_off rfl rfl rfl rfl hg64 rfl rfl ?_
                    refine gop_off rfl rfl rfl rfl hg64 rfl rfl ?_
                    refine gop_on rfl rfl rfl rfl hg60 ?_
                    refine gop (y_bare (y_pick_t (v := .bool _) rfl hg64 rfl)) rfl rfl rfl ?_
                    refine gop (y_pick_t (v := .bool _) rfl hg60 rfl) rfl rfl rfl ?_
                    refine gop (y_assign (v := .bool _) rfl) rfl rfl rfl ?_
                    refine gops_nil ?_
                    refine hN19 _ _ ?_
                    refine gfrom [(0, .slice _ _ _), (1, .slice _ _ _), (2, .slice _ _ _), (9, .bool _), (11, .bool _), (12, .int _ _)] ⟨rfl, rfl, rfl, rfl, rfl, rfl, trivial⟩ fun σ => ?_
                    refine greg ?_
                    refine gop (y_move (v := .int _ _) rfl) rfl rfl rfl ?_
                    refine gop (y_add rfl rfl ⟨by omega, by omega⟩) rfl rfl rfl ?_
                    refine gop (y_assign (v := .int _ _) rfl) rfl rfl rfl ?_
                    refine gops_nil ?_
                    refine gnext2 (k + 1) (by omega) (show k + 1 ≤ _ by omega) ⟨congrArg Value.bool (by rw [all_next hk1, hg60d, decide_eq_true (show (findU (rls rs) ps[k]).length = 0 by omega)]; rfl), rfl, trivial⟩ ⟨rfl, rfl, rfl, rfl, trivial⟩ ⟨_, rfl⟩
                · 
                  have hg60d := hg60
                  refine gop_off rfl rfl rfl rfl hg60 rfl rfl ?_
                  refine gop_off rfl rfl rfl rfl hg60 rfl rfl ?_
                  refine gop_off rfl rfl rfl rfl hg60 rfl rfl ?_
                  refine gop_offu rfl rfl rfl rfl rfl rfl ?_
                  refine gop_offu rfl rfl rfl rfl rfl rfl ?_
                  refine gop_offu rfl rfl rfl rfl rfl rfl ?_
                  refine gop_off rfl rfl rfl rfl hg60 rfl rfl ?_
                  refine gop (y_pick_f (v := .bool _) rfl hg60 rfl) rfl rfl rfl ?_
                  refine gop (y_assign (v := .bool _) rfl) rfl rfl rfl ?_
                  refine gops_nil ?_
                  refine hN19 _ _ ?_
                  refine gfrom [(0, .slice _ _ _), (1, .slice _ _ _), (2, .slice _ _ _), (9, .bool _), (11, .bool _), (12, .int _ _)] ⟨rfl, rfl, rfl, rfl, rfl, rfl, trivial⟩ fun σ => ?_
                  refine greg ?_
                  refine gop (y_move (v := .int _ _) rfl) rfl rfl rfl ?_
                  refine gop (y_add rfl rfl ⟨by omega, by omega⟩) rfl rfl rfl ?_
                  refine gop (y_assign (v := .int _ _) rfl) rfl rfl rfl ?_
                  refine gops_nil ?_
                  refine gnext2 (k + 1) (by omega) (show k + 1 ≤ _ by omega) ⟨congrArg Value.bool (by rw [all_next hk1, hg60d]; rfl), rfl, trivial⟩ ⟨rfl, rfl, rfl, rfl, trivial⟩ ⟨_, rfl⟩
            · 
              replace hc44 := of_decide_eq_false hc44
              have hE2 : (ps.take k).all (fun p => decide ((findU (rls rs) p).length = 0) || meetsB (findU (rls rs) p) U) = ps.all (fun p => decide ((findU (rls rs) p).length = 0) || meetsB (findU (rls rs) p) U) := by rw [List.take_of_length_le (by omega)]
              refine gexit ?_
              refine hN15 _ _ ?_
              refine gfrom [(9, .bool _), (11, .bool _)] ⟨rfl, rfl, trivial⟩ fun σ => ?_
              refine gseq fun N23 hN23 => ?_
              refine greg ?_
              refine gop (y_move (v := .bool _) rfl) rfl rfl rfl ?_
              refine gop (y_move (v := .bool _) rfl) rfl rfl rfl ?_
              refine gop (y_eqlb rfl rfl Tryd.underlying4) rfl rfl rfl ?_
              refine gop (y_assign (v := .bool _) rfl) rfl rfl rfl ?_
              refine gops_nil ?_
              refine hN23 _ _ ?_
              refine gfrom [(6, .bool _)] ⟨rfl, trivial⟩ fun σ => ?_
              refine gret fun w1 hM => ?_
              refine ⟨_, res1 rfl (rt (v := .bool _) rfl), ?_⟩
              exact ⟨by rw [hE1, hE2, h24]; simp, hM.low⟩
end Go.Proofs.YtijpaljdclhehaaDoor
namespace Go.Cf
open Go.ChangeShapes Go.WideShapes Go.ChangeAt Go.RowKit Go.Deep
theorem law_lift_row {H : Type} {enc : TypeId × Value → H} {C : Checked} {os : Os} {f : FuncId} {fn : Func} {s : OpenSpec} {F : Stop.Interp} {conds : List PathCond} {tb : TypeId} {laid : List (String × DataW Unit)}
    (own : ownKnob C.prog.godebug = none) (started : os.Started) (noInit : C.prog.inits.idxOf? f = none) (hfn : C.prog.funcs[f]? = some fn)
    (witness : ∃ (w : World) (tape : Tape) (i : Input), w.os = os ∧ (w.forCall tape i).Shaped C.prog ∧ i.vars = [] ∧ Input.okWide C.prog (w.forCall tape i) .any w.heap.size f i ∧
      s.preRow enc C.prog fn conds false laid (w.forCall tape i).memory i.args ∧ Assume.holds {} C.prog (lone (Frame.enter C.prog f i.args .normal) [] (w.forCall tape i)))
    (hl : laidOutB C.prog = true) (hread : (fn.params.toList.all fun t => C.prog.readableRec t && decide (t < C.prog.types.size)) = true) (hres : fn.resultTypes = #[tb]) (htb : C.prog.underlying tb = some .bool) (hvars : s.vars = []) (hvars0 : (s.at F).vars = []) (hvt : s.bare.plain.varTypes C.prog = [])
    (hspec : ∀ ds : List (DataW H), ds.length = fn.params.size → ((s.at F).fn H (ds ++ [])).results = [.lit (.bool true)] ∧ ((s.at F).fn H (ds ++ [])).args = ds ∧ ((s.at F).fn H (ds ++ [])).vars = [])
    (contract : ∀ (W : World) (base : Nat) (args : Array Value) (ds : List (DataW H)) (p : List MemPlace),
      (∀ (j : Nat) t v, fn.params[j]? = some t → args[j]? = some v → Value.okWide C.prog W .any base t v) → DataW.TrodAll enc C.prog W 0 (fun _ => true) true fn.params.toList args.toList ds p →
      (DataW.weightsEach C.prog fn.params.toList ds).all (· ≤ reachBytes) = true → (∀ k, s.cond = some k → k H ds = true) → laidMetH C.prog laid W →
      Calls C.prog f args W fun e W' => e = .returned (.bool true) ∧ Below W.heap.size W W') :
    ReturnsInHanded {} C os f .any (s.preRow enc C.prog fn conds false laid) ((s.at F).post enc C.prog fn false true false false) := by
  refine returnsInHanded_of_row own started noInit hfn witness ?_
  intro W base args ds gs before hval hW _ hkk hsz hL _ _
  have hW' := hW
  obtain ⟨p, q, hA, hV, rfl, _, _⟩ := hW
  rw [hvars] at hV
  obtain ⟨rfl, rfl⟩ := trodVars_none hV
  have hlen : ds.length = fn.params.size := by
    have key : ∀ (ts : List TypeId) (vs : List Value) (ds : List (DataW H)) (p : List MemPlace), DataW.TrodAll enc C.prog W 0 (fun _ => true) true ts vs ds p → ds.length = ts.length := by
      intro ts
      induction ts with
      | nil => intro vs ds p h; obtain ⟨_, rfl, _⟩ := trodAll_nil h; rfl
      | cons t ts ih => intro vs ds p h; obtain ⟨v, vs', d, ds', p, q, rfl, rfl, rfl, _, h2⟩ := trodAll_cons h; simp [ih _ _ _ h2]
    rw [key _ _ _ _ hA]; simp
  have hw : (DataW.weightsEach C.prog fn.params.toList ds).all (· ≤ reachBytes) = true := by
    simpa [hvt] using hsz
  refine (contract W base args ds p hval hA hw (fun k hk => by simpa using hkk k hk) hL).mono fun e W' ⟨he, bel⟩ => ?_
  subst he
  obtain ⟨h1, h2, h3⟩ := hspec ds hlen
  have hr : ∀ t ∈ fn.params.toList, C.prog.readableRec t = true ∧ t < C.prog.types.size := by
    intro t ht
    have := List.all_eq_true.1 hread t ht
    simpa using this
  refine ⟨_, rfl, ds, [], p ++ [], [], p, [], hW', ?_, ?_, ?_, World.keptBut_mono (fun x hx => ⟨hx, ?_⟩) (bel.frame (· ∈ p ++ [])), fun h => by cases h⟩
  · rw [h1, hres]; exact trodAll_mk1 (shut_bool htb _)
  · rw [h2]; exact trodAll_below hl bel hr hA
  · rw [h3, hvars0]; rfl
  · right; left; simpa using hx
end Go.Cf
namespace Go.Proofs.YtijpaljdclhehaaDoor
open Go.ChangeShapes Go.WideShapes Go.ChangeAt Go.RowKit Go.Cf
set_option maxRecDepth 10000
theorem ce_str : Tryd.prog.cellsOf 9 = 1 := by kernel_rfl
theorem ce_ints : Tryd.prog.cellsOf 30 = 1 := by kernel_rfl
theorem by_int : Tryd.prog.bytesOf 3 = 8 := by kernel_rfl
theorem by_rule : Tryd.prog.bytesOf 32 = 40 := by kernel_rfl
theorem el_rule {H : Type} {enc : TypeId × Value → H} {w : World} : ∀ (n : Nat) (cs : List Value) (x : DataW H × List MemPlace), DataW.trod enc Tryd.prog w 0 (fun _ => true) true n 32 cs = some x →
    (x.1.weights Tryd.prog 32).all (· ≤ reachBytes) = true → ∃ a : RuleC, cs = ruleCells a ∧ RuleR w 0 a := by
  intro n cs x h hw
  obtain ⟨m, hlen, hf⟩ := rd_struct Tryd.underlying32 h hw
  have hl : cs.length = 2 := hlen.trans (by kernel_rfl)
  match cs, hl with
  | [c0, c1], _ =>
    obtain ⟨y0, f0, w0⟩ := hf 0 _ rfl
    obtain ⟨y1, f1, w1⟩ := hf 1 _ rfl
    simp [ce_str, ce_ints] at f0 f1
    obtain ⟨a0, e0, _⟩ := el_str Tryd.underlying9 m _ _ f0 w0
    obtain ⟨A1, c1', l1, e1, r1, s1, m1, n1, t1, _⟩ := rd_cells Tryd.underlying30 (by kernel_rfl) (el_int Tryd.underlying3) f1 w1
    simp at e0 e1
    subst e0 e1
    rw [by_int] at t1
    exact ⟨⟨⟨a0, l1⟩, A1, c1'⟩, rfl, ⟨r1, ⟨s1, m1, n1, Nat.le_trans (Nat.mul_le_mul_right _ s1) t1⟩⟩⟩
end Go.Proofs.YtijpaljdclhehaaDoor
namespace Go.Proofs.YtijpaljdclhehaaDoor
open Go.ChangeShapes Go.WideShapes Go.ChangeAt Go.RowKit Go.Cf
set_option maxRecDepth 100000 in
theorem ownersRequiredIsSufficient_lifted (os : Os) (started : os.Started) (H : Type) (enc : TypeId × Value → H) (F : Stop.Interp) :
    ReturnsInHanded {} Tryd.checked os 8 .any ((OpenSpec.ofChange Rows.ownersRequiredIsSufficientSpec).preRow enc Tryd.prog Tryd.f8 Rows.ownersRequiredIsSufficientRow.domain false Rows.ownersRequiredIsSufficientRow.laid) (((OpenSpec.ofChange Rows.ownersRequiredIsSufficientSpec).at F).post enc Tryd.prog Tryd.f8 false true false false) := by
  refine law_lift_row (C := Tryd.checked) (s := OpenSpec.ofChange Rows.ownersRequiredIsSufficientSpec) (tb := 4) (by kernel_rfl) started (by kernel_rfl) Tryd.func8
    (witness_row_at (enc := enc) (C := Tryd.checked) false ({ (World.holding Tryd.prog os ⟨#[], #[], []⟩) with heap := ((World.holding Tryd.prog os ⟨#[], #[], []⟩).heap.modify 1 fun | .cells _ t fz => .cells (Go.Pinned.utf8FirstZ.map fun n : Nat => Value.int .u8 (n : Int)).toArray t fz | o => o).modify 2 fun | .cells _ t fz => .cells (([128, 191, 160, 191, 128, 159, 144, 191, 128, 143, 0, 0, 0, 0, 0, 0, 0, 0, 0, 0, 0, 0, 0, 0, 0, 0, 0, 0, 0, 0, 0, 0] : List Nat).map fun n : Nat => Value.int .u8 (n : Int)).toArray t fz | o => o } : World) #[.slice none 0 0, .slice none 0 0, .slice none 0 0] rfl (by kernel_rfl) (by kernel_rfl) (by kernel_rfl)
      (OpenSpec.preRow_of_cond 8 (show DataW.whole enc Tryd.prog _ Tryd.f8.params.toList _ false _ 8 = some ([.nil, .nil, .nil], [], []) by kernel_rfl) (by kernel_rfl) (fun k hk => by cases hk) (by kernel_rfl) (laidMet_of_run' 8 (by kernel_rfl) (by kernel_rfl))))
    (by kernel_rfl) (by kernel_rfl) (by kernel_rfl) Tryd.underlying4 rfl rfl rfl ?_ ?_
  · intro ds hds
    rw [show Tryd.f8.params.size = 3 from by rw [Tryd.params8]; rfl] at hds
    match ds, hds with
    | [d0, d1, d2], _ => exact ⟨rfl, rfl, rfl⟩
  · intro W base args ds p hval hA hw hk hL
    rw [show Tryd.f8.params.toList = [29, 37, 30] from by rw [Tryd.params8]] at hA hw
    rw [Tryd.params8] at hval
    obtain ⟨v0, vs0, d0, ds0, p0, q0, hargs, rfl, rfl, h0, r0⟩ := trodAll_cons hA
    obtain ⟨v1, vs1, d1, ds1, p1, q1, rfl, rfl, rfl, h1, r1⟩ := trodAll_cons r0
    obtain ⟨v2, vs2, d2, ds2, p2, q2, rfl, rfl, rfl, h2, r2⟩ := trodAll_cons r1
    obtain ⟨rfl, rfl, rfl⟩ := trodAll_nil r2
    obtain rfl : args = #[v0, v1, v2] := by cases args; simp_all
    obtain ⟨w0, hw⟩ := weights_each hw
    obtain ⟨w1, hw⟩ := weights_each hw
    obtain ⟨w2, hw⟩ := weights_each hw
    obtain ⟨A0, c0, l0, rfl, hv0, hlc0, hcm0, hA0, hcb0, hQ0⟩ := rd_slice Tryd.underlying29 (by kernel_rfl) el_rule (hval 0 29 v0 rfl rfl) h0 w0
    have hR0 : RulesR W 0 A0 c0 l0 := ⟨hv0, hQ0, ⟨hlc0, hcm0, hA0, Nat.le_trans (Nat.mul_le_mul_right _ hlc0) (by rw [by_rule] at hcb0; exact hcb0)⟩⟩
    obtain ⟨A1, c1, l1, rfl, hv1, hlc1, hcm1, hA1, hcb1, hQ1⟩ := rd_slice Tryd.underlying37 (by kernel_rfl) (el_str Tryd.underlying9) (hval 1 37 v1 rfl rfl) h1 w1
    obtain ⟨A2, c2, l2, rfl, hv2, hlc2, hcm2, hA2, hcb2, hQ2⟩ := rd_slice Tryd.underlying30 (by kernel_rfl) (el_int Tryd.underlying3) (hval 2 30 v2 rfl rfl) h2 w2
    exact law24_any W A0 c0 l0 hR0 A1 c1 l1 hv1 hlc1 hcm1 A2 c2 l2 hv2 hlc2 hcm2
theorem ownersRequiredIsSufficient_said : Rows.OwnersRequiredIsSufficientSaid :=
  OpenClaim.holds_of_cond 8 Tryd.f8 rfl rfl rfl rfl rfl rfl rfl ⟨rfl, rfl, rfl, rfl, rfl⟩ rfl rfl rfl rfl rfl (by kernel_rfl) Tryd.func8 (by kernel_rfl)
    (of_decide_eq_true (by kernel_rfl)) (by unfold Func.isWrapper; first | (rw [if_pos (by decide +kernel)]; kernel_rfl) | (rw [if_neg (by decide +kernel)]; exact ⟨rfl, rfl⟩))
    (fun os started H enc _ F => by rw [OpenClaim.pre_eq_preRow]; exact ownersRequiredIsSufficient_lifted os started H enc F)
theorem ownersRequiredIsSufficient_plain (f : FuncId) (fn : Func) (hf : Tryd.pinned.checked.prog.funcNamed "changeforge/changeforgelaw7.OwnersRequiredIsSufficient" = some f) (hfn : Tryd.pinned.checked.prog.funcs[f]? = some fn) :
    false = Tryd.pinned.checked.prog.looks [] ∧ ∀ (j : Nat) t, fn.params[j]? = some t → Tryd.pinned.checked.prog.wantsStandIn t = false := by
  obtain rfl : f = 8 := Option.some.inj ((show Tryd.prog.funcNamed "changeforge/changeforgelaw7.OwnersRequiredIsSufficient" = some 8 by kernel_rfl).symm.trans hf) |>.symm
  obtain rfl : fn = Tryd.f8 := (Option.some.inj (Tryd.func8.symm.trans hfn)).symm
  refine ⟨by kernel_rfl, fun j t ht => ?_⟩
  rw [Tryd.params8] at ht
  have hm : t ∈ [29, 37, 30] := by simpa using Array.mem_of_getElem? ht
  have hall : ([29, 37, 30].all fun u => !Tryd.prog.wantsStandIn u) = true := by kernel_rfl
  exact (show Tryd.prog.wantsStandIn t = false by simpa using List.all_eq_true.1 hall t hm)
theorem ownersRequiredIsSufficient_holds : Rows.OwnersRequiredIsSufficientCardSaid :=
  Claim7.holds_tied_plain_at .later [] _ _ _ _ ownersRequiredIsSufficient_said (fun _ h => by cases h) (by kernel_rfl) (fun _ h => by cases h) ownersRequiredIsSufficient_row_tie rfl ⟨rfl, rfl⟩ (by kernel_rfl) rfl ownersRequiredIsSufficient_plain (by kernel_rfl)
end Go.Proofs.YtijpaljdclhehaaDoor
