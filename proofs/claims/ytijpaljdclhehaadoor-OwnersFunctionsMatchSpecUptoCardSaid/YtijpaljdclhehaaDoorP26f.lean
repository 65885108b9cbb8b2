/- Own frame, plain models and walks, part 6 (texts of this claim put together). -/
import Derived.Test.YtijpaljdclhehaaDoorP26e
namespace Go.Proofs.YtijpaljdclhehaaDoor
open Go.RowKit Go.Cf
set_option maxRecDepth 10000
theorem el30 : Elem Tryd.prog 30 1 24 := elem_of (z := .slice none 0 0) (by kernel_rfl) rfl (by decide)
set_option maxHeartbeats 8000000 in
theorem required_any (w : World) (A : Option Addr) (c : Nat) (rs : List RuleC) (hR : RulesR w 0 A c rs) (PA : Option Addr) (pc : Nat) (ps : List ByteArray) (hps : Rdl w 0 1 strCells PA ps) (hpl : ps.length ≤ pc) (hpm : pc ≤ maxLen) :
    Calls Tryd.prog 24 #[.slice A rs.length c, .slice PA ps.length pc] w fun e w' => ∃ v T' og fr, e = .returned (.tuple #[v, fv (reqF (rls rs) ps)]) ∧ T' = [rowl gpCells w.heap.size 30 1 (v) (og), fr] ∧ gps og = reqV (rls rs) ps ∧ (∀ w1, fr.ok w1 → ∀ a ∈ og, GrR w1 w.heap.size a) ∧ Mem w T' w' := by
  have hln := hR.sb.len
  have hmx := hR.sb.max
  unfold maxLen at hmx
  have hpn : ps.length ≤ 9223372036854775807 := by have h9 := Nat.le_trans hpl hpm; unfold maxLen at h9; omega
  refine gcalls Tryd.func24 rfl Tryd.ntmps24 (Nat.le_of_ble_eq_true rfl) ?_
  refine gfrom [(0, .slice _ _ _), (1, .slice _ _ _)] ⟨rfl, rfl, trivial⟩ fun σ => ?_
  refine gseq fun N1 hN1 => ?_
  refine greg ?_
  refine gop (y_assign (v := .slice _ _ _) rfl) rfl rfl rfl ?_
  refine gop_alloc (cs := #[.int .i64 0, .int .i64 0]) Tryd.zeroValue23 rfl rfl (fun b5 hb5 => ?_)
  refine gops_nil ?_
  refine hN1 _ _ ?_
  refine gT [box b5 _] rfl ?_
  refine gfrom [(0, .slice _ _ _), (1, .slice _ _ _), (5, .pointer _)] ⟨rfl, rfl, rfl, trivial⟩ fun σ => ?_
  refine gseq fun N2 hN2 => ?_
  refine gseq fun N3 hN3 => ?_
  refine greg ?_
  refine gop (y_move (v := .slice _ _ _) rfl) rfl rfl rfl ?_
  refine gop_pure (e_call (vs := [.slice _ _ _]) Tryd.func28 rfl (by kernel_rfl) rfl) (fun w hM => ownValidate_any w A c rs (RulesR.lasts.base hR hM)) rfl rfl rfl ?_
  refine gop_alloc (cs := #[.int .i64 0, .int .i64 0]) Tryd.zeroValue23 rfl rfl (fun b6 hb6 => ?_)
  refine gop_store 1 (v := .agg #[_, _]) (cs' := #[_, _]) rfl rfl Tryd.sizeOf23 rfl rfl rfl rfl (Nat.le_of_ble_eq_true rfl) rfl rfl ?_
  refine gops_nil ?_
  refine hN3 _ _ ?_
  refine gT [box b5 _, box b6 _] rfl ?_
  refine gfrom [(0, .slice _ _ _), (1, .slice _ _ _), (5, .pointer _), (6, .pointer _)] ⟨rfl, rfl, rfl, rfl, trivial⟩ fun σ => ?_
  refine gseq fun N4 hN4 => ?_
  refine greg ?_
  refine gop (y_loads (cs := [_, _]) Tryd.isAgg23 Tryd.sizeOf23 rfl rfl (cells_box 1 rfl)) rfl rfl rfl ?_
  refine gop (y_build (vs := []) (cells := #[.int .i64 0, .int .i64 0]) rfl bd23_) rfl rfl rfl ?_
  refine gop (y_bin (vx := .agg #[_, _]) (vy := .agg #[_, _]) rfl rfl (fun w => eg23 _ _ _ _ _ w) (fun w => ne23 _ _ _ _ w)) rfl rfl rfl ?_
  refine gops_nil ?_
  refine hN4 _ _ ?_
  refine gfrom [(0, .slice _ _ _), (1, .slice _ _ _), (5, .pointer _), (6, .pointer _), (19, .bool _)] ⟨rfl, rfl, rfl, rfl, rfl, trivial⟩ fun σ => ?_
  refine gcond (b := _) rfl (fun hc19 => ?_) (fun hc19 => ?_)
  · 
    replace hc19 := fault_ne.1 hc19
    have hFF : reqF (rls rs) ps = rulesF (rls rs) := by rw [reqF, if_pos hc19]
    refine gseq fun N5 hN5 => ?_
    refine greg_e1 [] [(0, room b5 23 2)] (by kernel_rfl) ?_
    refine ge_take 0 (TK := [room b5 23 2, box b6 _]) rfl (by kernel_rfl) (by kernel_rfl) (by kernel_rfl) #[false, true, false] (by kernel_rfl) rfl (y_loads (cs := [_, _]) Tryd.isAgg23 Tryd.sizeOf23 rfl rfl (cells_box 1 rfl)) rfl rfl rfl (weak_room 0 rfl rfl) (listed' := #[true, false, false]) rfl ?_
    refine ge_take 1 (TK := [room b5 23 2, box b6 _]) rfl (by kernel_rfl) (by kernel_rfl) (by kernel_rfl) #[true, false, false] (by kernel_rfl) rfl (y_assign (v := .slice _ _ _) rfl) rfl rfl rfl (weak_room 0 rfl rfl) (listed' := #[true, true, false]) rfl ?_
    refine ge_one 2 (k' := 0) (listed' := #[true, true, true]) (by kernel_rfl) rfl rfl rfl ?_
    refine gop_store 0 (v := .agg #[_, _]) (cs' := #[_, _]) rfl rfl Tryd.sizeOf23 rfl rfl rfl rfl (Nat.le_of_ble_eq_true rfl) rfl rfl ?_
    refine gops_nil ?_
    refine ge_fin (TK := [room b5 23 2, box b6 _]) rfl (weak_room 0 rfl rfl) ?_
    refine ge_done (by kernel_rfl) ?_
    refine hN5 _ _ ?_
    refine gT [box b5 _, box b6 _] rfl ?_
    refine gfrom [(4, .slice _ _ _), (5, .pointer _)] ⟨rfl, rfl, trivial⟩ fun σ => ?_
    refine gret fun w1 hM => ?_
    refine ⟨_, res2 rfl (rt (v := .slice _ _ _) rfl) (rc 0 (cs := [_, _]) hM rfl rfl Tryd.isAgg23 Tryd.sizeOf23 rfl), ?_⟩
    exact ⟨_, _, [], emp, by rw [hFF], rfl, by rw [reqV, if_neg (by rw [hFF]; exact hc19)]; rfl, fun _ _ _ h => (by cases h), (mem_nilrow gpCells 30 1 hM).emp.dropTo 2 rfl⟩
  · 
    replace hc19 := fault_eq.1 hc19
    refine gskip ?_
    refine hN2 _ _ ?_
    refine gfrom [(0, .slice _ _ _), (1, .slice _ _ _), (5, .pointer _)] ⟨rfl, rfl, rfl, trivial⟩ fun σ => ?_
    refine gseq fun N6 hN6 => ?_
    refine gseq fun N7 hN7 => ?_
    refine greg ?_
    refine gop (y_move (v := .slice _ _ _) rfl) rfl rfl rfl ?_
    refine gop (y_len Tryd.underlying37 rfl) rfl rfl rfl ?_
    refine gop (y_gtr rfl rfl) rfl rfl rfl ?_
    refine gops_nil ?_
    refine hN7 _ _ ?_
    refine gfrom [(0, .slice _ _ _), (1, .slice _ _ _), (5, .pointer _), (23, .bool _)] ⟨rfl, rfl, rfl, rfl, trivial⟩ fun σ => ?_
    refine gcond (b := _) rfl (fun hc23 => ?_) (fun hc23 => ?_)
    · 
      replace hc23 := of_decide_eq_true hc23
      have hFF : reqF (rls rs) ps = ⟨2, -2⟩ := by rw [reqF, if_neg (fun h => h hc19), if_pos (by omega)]
      refine gseq fun N8 hN8 => ?_
      refine greg ?_
      refine gop (y_build (vs := [(0, _), (1, _)]) (cells := #[_, _]) rfl (bd23_0_1 _ _)) rfl rfl rfl ?_
      refine gop (y_assign (v := .slice _ _ _) rfl) rfl rfl rfl ?_
      refine gop_store 0 (v := .agg #[_, _]) (cs' := #[_, _]) rfl rfl Tryd.sizeOf23 rfl rfl rfl rfl (Nat.le_of_ble_eq_true rfl) rfl rfl ?_
      refine gops_nil ?_
      refine hN8 _ _ ?_
      refine gT [box b5 _, box b6 _] rfl ?_
      refine gfrom [(4, .slice _ _ _), (5, .pointer _)] ⟨rfl, rfl, trivial⟩ fun σ => ?_
      refine gret fun w1 hM => ?_
      refine ⟨_, res2 rfl (rt (v := .slice _ _ _) rfl) (rc 0 (cs := [_, _]) hM rfl rfl Tryd.isAgg23 Tryd.sizeOf23 rfl), ?_⟩
      exact ⟨_, _, [], emp, by rw [hFF], rfl, by rw [reqV, if_neg (by rw [hFF]; decide)]; rfl, fun _ _ _ h => (by cases h), (mem_nilrow gpCells 30 1 hM).emp.dropTo 2 rfl⟩
    · 
      replace hc23 := of_decide_eq_false hc23
      refine gskip ?_
      refine hN6 _ _ ?_
      refine gfrom [(0, .slice _ _ _), (1, .slice _ _ _), (5, .pointer _)] ⟨rfl, rfl, rfl, trivial⟩ fun σ => ?_
      refine gseq fun N9 hN9 => ?_
      refine greg ?_
      refine gop (y_assign (v := .slice _ _ _) rfl) rfl rfl rfl ?_
      refine gops_nil ?_
      refine hN9 _ _ ?_
      refine gfrom [(0, .slice _ _ _), (1, .slice _ _ _), (5, .pointer _), (7, .slice _ _ _)] ⟨rfl, rfl, rfl, rfl, trivial⟩ fun σ => ?_
      refine gseq fun N10 hN10 => ?_
      refine gseq fun N11 hN11 => ?_
      refine greg ?_
      refine gop (y_move (v := .slice _ _ _) rfl) rfl rfl rfl ?_
      refine gop (y_len Tryd.underlying37 rfl) rfl rfl rfl ?_
      refine gop (y_move (v := .int _ _) rfl) rfl rfl rfl ?_
      refine gops_nil ?_
      refine hN11 _ _ ?_
      refine gfrom [(0, .slice _ _ _), (5, .pointer _), (7, .slice _ _ _), (25, .slice _ _ _), (26, .int _ _), (27, .int _ _)] ⟨rfl, rfl, rfl, rfl, rfl, rfl, trivial⟩ fun σ => ?_
      refine gblock ?_
      refine gnilrow gpCells 30 1 ?_
      refine g_emp ?_
      refine gfrom2 [(7, .slice _ _ _), (27, .int _ _)] [(0, .slice _ _ _), (5, .pointer _), (25, .slice _ _ _), (26, .int _ _)] ⟨rfl, rfl, trivial⟩ ⟨rfl, rfl, rfl, rfl, trivial⟩ fun σ => ?_
      refine gloop2 (G := Nat × Option Addr × Nat × List GroupC × Reg) (fun (k, Av, cv, gs, fr) => k ≤ ps.length ∧ gps gs = (ps.take k).map (findU (rls rs)) ∧ (∀ j (h : j < ps.length), j < k → pathOk ps[j] = true) ∧ (∀ w1, fr.ok w1 → ∀ a ∈ gs, GrR w1 w.heap.size a)) (fun (k, Av, cv, gs, fr) => ps.length - k) (fun (k, Av, cv, gs, fr) => [(7, .slice Av gs.length cv), (27, .int .i64 (k : Int))]) (fun (k, Av, cv, gs, fr) => [(2, rowl gpCells w.heap.size 30 1 (.slice Av gs.length cv) (gs)), (3, fr)]) ((0, none, 0, [], emp)) ?h0 ⟨rfl, rfl, trivial⟩ ⟨rfl, rfl, rfl, rfl, trivial⟩ rfl ?round
      case h0 => exact ⟨Nat.zero_le _, rfl, fun _ _ h => absurd h (by omega), fun _ _ _ h => (by cases h)⟩
      case round =>
        rintro ⟨k, Av, cv, gs, fr⟩ hφ σ
        obtain ⟨hk, hgl, hz, hfr⟩ := hφ
        have hgsl : gs.length = k := by have h8 := congrArg List.length hgl; simp at h8; omega
        refine gT [box b5 _, box b6 _, rowl _ _ _ _ _ _, fr] rfl ?_
        refine gseq fun N12 hN12 => ?_
        refine greg ?_
        refine gop (y_lss rfl rfl) rfl rfl rfl ?_
        refine gops_nil ?_
        refine hN12 _ _ ?_
        refine gfrom [(0, .slice _ _ _), (5, .pointer _), (7, .slice Av _ cv), (25, .slice _ _ _), (26, .int _ _), (27, .int _ _), (28, .bool _)] ⟨rfl, rfl, rfl, rfl, rfl, rfl, rfl, trivial⟩ fun σ => ?_
        refine gseq fun N13 hN13 => ?_
        refine gcond (b := _) rfl (fun hc28 => ?_) (fun hc28 => ?_)
        · 
          replace hc28 := of_decide_eq_true hc28
          have hk1 : k < ps.length := by omega
          obtain ⟨ad, rfl, -, hca⟩ := hps.at_ hk1
          refine gskip ?_
          refine hN13 _ _ ?_
          refine gfrom [(0, .slice _ _ _), (5, .pointer _), (7, .slice Av _ cv), (25, .slice _ _ _), (26, .int _ _), (27, .int _ _)] ⟨rfl, rfl, rfl, rfl, rfl, rfl, trivial⟩ fun σ => ?_
          refine gseq fun N14 hN14 => ?_
          refine gblock ?_
          refine gseq fun N15 hN15 => ?_
          refine greg ?_
          refine gop (y_move (v := .int _ _) rfl) rfl rfl rfl ?_
          refine gop (y_indexAddr (m := k) Tryd.underlying37 Tryd.sizeOf9 rfl rfl (by omega) (by omega) (by omega)) rfl rfl rfl ?_
          refine gop (y_load Tryd.isAgg9 rfl (cell_base (hca 0 _ rfl))) rfl rfl rfl ?_
          refine gop (y_assign (v := .int _ _) rfl) rfl rfl rfl ?_
          refine gop (y_assign (v := .string _) rfl) rfl rfl rfl ?_
          refine gops_nil ?_
          refine hN15 _ _ ?_
          refine gfrom [(0, .slice _ _ _), (5, .pointer _), (7, .slice Av _ cv), (8, .int _ _), (9, .string _), (25, .slice _ _ _), (26, .int _ _), (27, .int _ _)] ⟨rfl, rfl, rfl, rfl, rfl, rfl, rfl, rfl, trivial⟩ fun σ => ?_
          refine gseq fun N16 hN16 => ?_
          refine gseq fun N17 hN17 => ?_
          refine greg ?_
          refine gop (y_move (v := .string _) rfl) rfl rfl rfl ?_
          refine gop_pure (e_call (vs := [.string _]) Tryd.func42 rfl (by kernel_rfl) rfl) (fun w hM => validPath_any w _) rfl rfl rfl ?_
          refine gop (y_not rfl) rfl rfl rfl ?_
          refine gops_nil ?_
          refine hN17 _ _ ?_
          refine gfrom [(0, .slice _ _ _), (5, .pointer _), (7, .slice Av _ cv), (8, .int _ _), (9, .string _), (25, .slice _ _ _), (26, .int _ _), (27, .int _ _), (34, .bool _)] ⟨rfl, rfl, rfl, rfl, rfl, rfl, rfl, rfl, rfl, trivial⟩ fun σ => ?_
          refine gcond (b := _) rfl (fun hc34 => ?_) (fun hc34 => ?_)
          · 
            replace hc34 := not_t hc34
            have hFF : reqF (rls rs) ps = ⟨12, -3 - (k : Int)⟩ := by rw [reqF, if_neg (fun h => h hc19), if_neg (by omega), pathsF_at hk1 hz hc34]
            refine gseq fun N18 hN18 => ?_
            refine greg ?_
            refine gop (y_move (v := .int _ _) rfl) rfl rfl rfl ?_
            refine gop (y_sub rfl rfl ⟨by omega, by omega⟩) rfl rfl rfl ?_
            refine gop (y_build (vs := [(0, _), (1, .int _ _)]) (cells := #[_, _]) rfl (bd23_0_1 _ _)) rfl rfl rfl ?_
            refine gop (y_assign (v := .slice _ _ _) rfl) rfl rfl rfl ?_
            refine gop_store 0 (v := .agg #[_, _]) (cs' := #[_, _]) rfl rfl Tryd.sizeOf23 rfl rfl rfl rfl (Nat.le_of_ble_eq_true rfl) rfl rfl ?_
            refine gops_nil ?_
            refine hN18 _ _ ?_
            refine gT [box b5 _, box b6 _, rowl _ _ _ _ _ _, fr] rfl ?_
            refine gfrom [(4, .slice _ _ _), (5, .pointer _)] ⟨rfl, rfl, trivial⟩ fun σ => ?_
            refine gret fun w1 hM => ?_
            refine ⟨_, res2 rfl (rt (v := .slice _ _ _) rfl) (rc 0 (cs := [_, _]) hM rfl rfl Tryd.isAgg23 Tryd.sizeOf23 rfl), ?_⟩
            exact ⟨_, _, [], emp, by rw [hFF], rfl, by rw [reqV, if_neg (by rw [hFF]; exact fun h => absurd (congrArg Fault.code h) (show ¬ (12 : Int) = 0 by decide))]; rfl, fun _ _ _ h => (by cases h), (mem_nilrow gpCells 30 1 hM).emp.dropTo 4 rfl⟩
          · 
            replace hc34 := not_f hc34
            have hpk : pathOk ps[k] = true := hc34
            refine gskip ?_
            refine hN16 _ _ ?_
            refine gfrom [(0, .slice _ _ _), (5, .pointer _), (7, .slice Av _ cv), (9, .string _), (25, .slice _ _ _), (26, .int _ _), (27, .int _ _)] ⟨rfl, rfl, rfl, rfl, rfl, rfl, rfl, trivial⟩ fun σ => ?_
            refine greg ?_
            refine gop (y_move (v := .slice Av _ cv) rfl) rfl rfl rfl ?_
            refine gop (y_move (v := .slice _ _ _) rfl) rfl rfl rfl ?_
            refine gop (y_move (v := .string _) rfl) rfl rfl rfl ?_
            refine gop_got (fun v T' => ∃ lo, w.heap.size ≤ lo ∧ T' = [rowl intCells lo 3 1 (v) (findU (rls rs) ps[k])]) (e_call (vs := [.slice _ _ _, .string _]) Tryd.func49 rfl (by kernel_rfl) rfl) (fun w hM => (find_any w A c rs (RulesR.lasts.base hR hM) ps[k] (fun a ha => Nat.le_trans (patFault_size (ruleCode_zero (rulesF_each hc19 a.pl (List.mem_map.2 ⟨a, ha, rfl⟩))).1) (by decide)) (Nat.le_trans (pathOk_size hpk) (by decide)) (fun a ha => Nat.le_trans (ruleCode_zero (rulesF_each hc19 a.pl (List.mem_map.2 ⟨a, ha, rfl⟩))).2.1 (by decide))).mono fun _ _ ⟨v, T1, h1, h2, h3⟩ => ⟨v, T1, h1, ⟨_, hM.low.size, h2⟩, h3⟩) rfl rfl rfl ?_
            rintro v41 _ ⟨lo41, hlo41, rfl⟩
            refine gops_fact (fun w hM => row_form (hM.ok _ (List.mem_of_getElem? (i := 4) rfl))) ?_
            rintro ⟨A41, c41, rfl, hc41, hm41, hn41⟩
            refine gops_mem _ (weak_lower 4 rfl hlo41) ?_
            refine gop_lit (vs := [.slice A41 _ c41]) (cells := #[_]) Tryd.underlying44 Tryd.sizeOf30 Tryd.zeroValue30 rfl (by decide) (by decide) rfl rfl rfl rfl (fun b42 hb42 => ?_)
            refine gop_append 2 (f := gpCells) (l2 := [⟨findU (rls rs) ps[k], A41, c41⟩]) Tryd.underlying44 el30 wide_gp (v := .slice Av _ cv) rfl rfl rfl rfl (fun h => by cases h) (by simp [maxLen]; omega) (by simp; omega) (src_box 5 rfl rfl) rfl (fun v43 => ?_)
            refine gops_fact (fun w hM => own_form (hM.own 2 rfl)) ?_
            rintro ⟨A43, c43, rfl, hc43, hm43⟩
            refine gop (y_assign (v := .slice A43 _ c43) rfl) rfl rfl rfl ?_
            refine gops_nil ?_
            refine hN14 _ _ ?_
            refine gT [box b5 _, box b6 _, rowl _ _ _ _ _ _, fr, rowl _ _ _ _ _ _, box b42 _] rfl ?_
            refine gfrom [(0, .slice _ _ _), (5, .pointer _), (7, .slice A43 _ c43), (25, .slice _ _ _), (26, .int _ _), (27, .int _ _)] ⟨rfl, rfl, rfl, rfl, rfl, rfl, trivial⟩ fun σ => ?_
            refine greg ?_
            refine gop (y_add rfl rfl ⟨by omega, by omega⟩) rfl rfl rfl ?_
            refine gop (y_move (v := .int _ _) rfl) rfl rfl rfl ?_
            refine gops_nil ?_
            refine fin_mem _ (weak_all 4 3 rfl) ?_
            refine gnext2 ((k + 1, A43, c43, gs ++ [⟨findU (rls rs) ps[k], A41, c41⟩], both fr (all_ [_, _]))) (by show ps.length - (k + 1) < ps.length - k; omega) (⟨by show k + 1 ≤ _; omega, by show List.map _ _ = _; rw [List.map_append, List.take_succ_eq_append_getElem hk1, List.map_append]; show gps gs ++ _ = _; rw [hgl]; rfl, fun j h hj => by rcases Nat.lt_succ_iff_lt_or_eq.1 hj with h1 | rfl; exact hz j h h1; exact hpk, fun w1 ho a ha => ?hr⟩) ⟨rfl, rfl, trivial⟩ ⟨rfl, rfl, rfl, rfl, trivial⟩ ⟨_, rfl⟩
            case hr =>
              rcases List.mem_append.1 ha with ha | ha
              · exact hfr w1 ho.1 a ha
              · obtain rfl := List.mem_singleton.1 ha
                exact grR_row ho.2.1
        · 
          replace hc28 := of_decide_eq_false hc28
          have hPF : pathsF ps = ⟨0, 0⟩ := pathsF_ok (fun j hj => hz j hj (by omega))
          have hFF : reqF (rls rs) ps = ⟨0, 0⟩ := by rw [reqF, if_neg (fun h => h hc19), if_neg (by omega), hPF]
          have hgs : gps gs = groupsL (rls rs) ps := by rw [hgl, List.take_of_length_le (by omega)]; rfl
          have hgn : gs.length = ps.length := by have h8 := congrArg List.length hgs; simp [groupsL] at h8; exact h8
          refine gexit ?_
          refine hN10 _ _ ?_
          refine gfrom [(5, .pointer _), (7, .slice Av _ cv)] ⟨rfl, rfl, trivial⟩ fun σ => ?_
          refine gseq fun N19 hN19 => ?_
          refine greg ?_
          refine gop (y_assign (v := .slice _ _ _) rfl) rfl rfl rfl ?_
          refine gops_nil ?_
          refine hN19 _ _ ?_
          refine gfrom [(5, .pointer _), (7, .slice Av _ cv), (10, .slice _ _ _)] ⟨rfl, rfl, rfl, trivial⟩ fun σ => ?_
          refine gseq fun N20 hN20 => ?_
          refine gseq fun N21 hN21 => ?_
          refine greg ?_
          refine gop (y_move (v := .slice Av _ cv) rfl) rfl rfl rfl ?_
          refine gop (y_len Tryd.underlying44 rfl) rfl rfl rfl ?_
          refine gop (y_move (v := .int _ _) rfl) rfl rfl rfl ?_
          refine gops_nil ?_
          refine hN21 _ _ ?_
          refine gfrom [(5, .pointer _), (7, .slice Av _ cv), (10, .slice _ _ _), (45, .slice Av _ cv), (46, .int _ _), (47, .int _ _)] ⟨rfl, rfl, rfl, rfl, rfl, rfl, trivial⟩ fun σ => ?_
          refine gblock ?_
          refine gnilrow gpCells 30 1 ?_
          refine gfrom2 [(10, .slice _ _ _), (47, .int _ _)] [(5, .pointer _), (7, .slice Av _ cv), (45, .slice Av _ cv), (46, .int _ _)] ⟨rfl, rfl, trivial⟩ ⟨rfl, rfl, rfl, rfl, trivial⟩ fun σ => ?_
          refine gloop2 (G := Nat × Option Addr × Nat × List GroupC) (fun (k, Bv, dv, og) => k ≤ gs.length ∧ gps og = reqTo (gps gs) k ∧ (∀ a ∈ og, a ∈ gs)) (fun (k, Bv, dv, og) => gs.length - k) (fun (k, Bv, dv, og) => [(10, .slice Bv og.length dv), (47, .int .i64 (k : Int))]) (fun (k, Bv, dv, og) => [(4, rowl gpCells w.heap.size 30 1 (.slice Bv og.length dv) (og))]) ((0, none, 0, [])) ?h0 ⟨rfl, rfl, trivial⟩ ⟨rfl, rfl, rfl, rfl, trivial⟩ rfl ?round
          case h0 => exact ⟨Nat.zero_le _, rfl, fun _ h => (by cases h)⟩
          case round =>
            rintro ⟨k, Bv, dv, og⟩ hφ σ
            obtain ⟨hk, ho, hin⟩ := hφ
            have hol : og.length ≤ k := by have h8 := congrArg List.length ho; have h9 := req_len (gps gs) k; simp only [List.length_map] at h8; omega
            refine gT [box b5 _, box b6 _, rowl _ _ _ _ _ _, fr, rowl _ _ _ _ _ _] rfl ?_
            refine gseq fun N22 hN22 => ?_
            refine greg ?_
            refine gop (y_lss rfl rfl) rfl rfl rfl ?_
            refine gops_nil ?_
            refine hN22 _ _ ?_
            refine gfrom [(5, .pointer _), (7, .slice Av _ cv), (10, .slice Bv _ dv), (45, .slice Av _ cv), (46, .int _ _), (47, .int _ _), (48, .bool _)] ⟨rfl, rfl, rfl, rfl, rfl, rfl, rfl, trivial⟩ fun σ => ?_
            refine gseq fun N23 hN23 => ?_
            refine gcond (b := _) rfl (fun hc48 => ?_) (fun hc48 => ?_)
            · 
              replace hc48 := of_decide_eq_true hc48
              have hk1 : k < gs.length := by omega
              refine g_fact (fun w hM => own_some (hM.own 2 rfl) (by omega)) ?_
              rintro ⟨rg2, cg2, hvg, hcvl, -⟩
              simp only [Value.slice.injEq] at hvg
              obtain ⟨rfl, -, rfl⟩ := hvg
              refine gskip ?_
              refine hN23 _ _ ?_
              refine gfrom [(5, .pointer _), (7, .slice (some ⟨rg2, 0, none⟩) _ _), (10, .slice Bv _ dv), (45, .slice (some ⟨rg2, 0, none⟩) _ _), (46, .int _ _), (47, .int _ _)] ⟨rfl, rfl, rfl, rfl, rfl, rfl, trivial⟩ fun σ => ?_
              refine gseq fun N24 hN24 => ?_
              refine gblock ?_
              refine gseq fun N25 hN25 => ?_
              refine greg ?_
              refine gop (y_move (v := .int _ _) rfl) rfl rfl rfl ?_
              refine gop (y_indexAddr (m := k) Tryd.underlying44 Tryd.sizeOf30 rfl rfl (by omega) (by omega) (by omega)) rfl rfl rfl ?_
              refine gop (y_load Tryd.isAgg30 rfl (cells_rowl 2 (f := gpCells) (l := gs) rfl rfl (fun _ => rfl) (List.getElem?_eq_getElem hk1) 0 _ rfl)) rfl rfl rfl ?_
              refine gop_alloc (cs := #[.slice none 0 0]) Tryd.zeroValue30 rfl rfl (fun b12 hb12 => ?_)
              refine gop (y_assign (v := .int _ _) rfl) rfl rfl rfl ?_
              refine gop_store 5 (v := .slice _ _ _) (cs' := #[_]) rfl rfl Tryd.sizeOf30 rfl rfl rfl rfl (Nat.le_of_ble_eq_true rfl) rfl rfl ?_
              refine gops_nil ?_
              refine hN25 _ _ ?_
              refine gT [box b5 _, box b6 _, rowl _ _ _ _ _ _, fr, rowl _ _ _ _ _ _, box b12 _] rfl ?_
              refine gfrom [(5, .pointer _), (7, .slice (some ⟨rg2, 0, none⟩) _ _), (10, .slice Bv _ dv), (11, .int _ _), (12, .pointer _), (45, .slice (some ⟨rg2, 0, none⟩) _ _), (46, .int _ _), (47, .int _ _)] ⟨rfl, rfl, rfl, rfl, rfl, rfl, rfl, rfl, trivial⟩ fun σ => ?_
              refine gseq fun N26 hN26 => ?_
              refine greg ?_
              refine gop (y_makeFunc (vs := [.pointer (some ⟨b12, 0, none⟩)]) rfl) rfl rfl rfl ?_
              refine gop (y_assign (v := .func (.func 51) #[] #[.pointer (some ⟨b12, 0, none⟩)]) rfl) rfl rfl rfl ?_
              refine gops_nil ?_
              refine hN26 _ _ ?_
              refine gfrom [(5, .pointer _), (7, .slice (some ⟨rg2, 0, none⟩) _ _), (10, .slice Bv _ dv), (11, .int _ _), (12, .pointer _), (13, .func (.func 51) #[] #[.pointer (some ⟨b12, 0, none⟩)]), (45, .slice (some ⟨rg2, 0, none⟩) _ _), (46, .int _ _), (47, .int _ _)] ⟨rfl, rfl, rfl, rfl, rfl, rfl, rfl, rfl, rfl, trivial⟩ fun σ => ?_
              refine gseq fun N27 hN27 => ?_
              refine greg ?_
              refine gop (y_makeFunc (vs := [.pointer (some ⟨b12, 0, none⟩)]) rfl) rfl rfl rfl ?_
              refine gop (y_assign (v := .func (.func 53) #[] #[.pointer (some ⟨b12, 0, none⟩)]) rfl) rfl rfl rfl ?_
              refine gops_nil ?_
              refine hN27 _ _ ?_
              refine gfrom [(5, .pointer _), (7, .slice (some ⟨rg2, 0, none⟩) _ _), (10, .slice Bv _ dv), (11, .int _ _), (12, .pointer _), (13, .func (.func 51) #[] #[.pointer (some ⟨b12, 0, none⟩)]), (14, .func (.func 53) #[] #[.pointer (some ⟨b12, 0, none⟩)]), (45, .slice (some ⟨rg2, 0, none⟩) _ _), (46, .int _ _), (47, .int _ _)] ⟨rfl, rfl, rfl, rfl, rfl, rfl, rfl, rfl, rfl, rfl, trivial⟩ fun σ => ?_
              refine gseq fun N28 hN28 => ?_
              refine greg ?_
              refine gop (y_load Tryd.isAgg30 rfl (cell_box 5 rfl rfl)) rfl rfl rfl ?_
              refine gop (y_len Tryd.underlying30 rfl) rfl rfl rfl ?_
              refine gop (y_gtr rfl rfl) rfl rfl rfl ?_
              refine gop (y_move (v := .bool _) rfl) rfl rfl rfl ?_
              refine gop_if (want := true) rfl rfl rfl rfl rfl rfl (fun hg57 => ?_) (fun hg57 => ?_)
              · 
                have hg57d := of_decide_eq_true hg57
                refine gop (y_bare (y_move (v := .slice (some ⟨rg2, 0, none⟩) _ _) rfl)) rfl rfl rfl ?_
                refine gop_on rfl rfl rfl rfl hg57 ?_
                refine gop (y_bare (y_move (v := .int _ _) rfl)) rfl rfl rfl ?_
                refine gop_on rfl rfl rfl rfl hg57 ?_
                refine gop (y_bare (y_trunc (m := k) Tryd.underlying44 Tryd.sizeOf30 rfl rfl (by omega) (by omega) rfl)) rfl rfl rfl ?_
                refine gop_on rfl rfl rfl rfl hg57 ?_
                refine gop (y_bare (y_move (v := .func (.func 51) #[] #[.pointer (some ⟨b12, 0, none⟩)]) rfl)) rfl rfl rfl ?_
                refine gop_on rfl rfl rfl rfl hg57 ?_
                refine gop_pure (e_call (vs := [.slice _ _ _, .func (.func 51) #[] #[.pointer (some ⟨b12, 0, none⟩)]]) Tryd.func55 rfl (by kernel_rfl) rfl) (fun w hM => by have hcl1 : ∀ k' (h : k' < (gs.take k).length) w1, Below w.heap.size w w1 → Calls Tryd.prog 51 (([.slice (gs.take k)[k'].A (gs.take k)[k'].pl.length (gs.take k)[k'].c] : List Value) ++ [Value.pointer (some ⟨b12, 0, none⟩)]).toArray w1 (fun e w2 => e = .returned (.bool ((fun x : List Int => decide (x = gs[k].pl)) (gs.take k)[k'].pl)) ∧ Below w1.heap.size w1 w2) := (fun k' hk' w1 hb1 => by have hM1 := hM.call hb1; have hg := hfr _ (hM1.ok _ (List.mem_of_getElem? (i := 3) rfl)) (gs.take k)[k'] (List.mem_of_mem_take (List.getElem_mem hk')); have hq := hfr _ (hM1.ok _ (List.mem_of_getElem? (i := 3) rfl)) gs[k] (List.getElem_mem hk1); exact req1_any w1 _ _ _ (hg.rd.mono (Nat.zero_le _)) (Nat.le_trans hg.len hg.max) b12 _ _ _ (hM1.cell 5 rfl rfl) (hq.rd.mono (Nat.zero_le _)) (Nat.le_trans hq.len hq.max)); have h2 : Rdl w 0 1 gpCells (some ⟨rg2, 0, none⟩) (gs.take k) := rdl_take ((row_rdl (f := gpCells) (fun _ => rfl) (hM.ok _ (List.mem_of_getElem? (i := 2) rfl))).mono (Nat.zero_le _)) k; have hc := contFuncG_any w _ cv (gs.take k) h2 (by simp [maxLen]; omega) k (by simp; omega) 51 _ Tryd.func51 (by kernel_rfl) (by kernel_rfl) [Value.pointer (some ⟨b12, 0, none⟩)] (fun x : List Int => decide (x = gs[k].pl)) hcl1; exact hc) rfl rfl rfl ?_
                refine gop_on rfl rfl rfl rfl hg57 ?_
                refine gop (y_bare (y_not rfl)) rfl rfl rfl ?_
                refine gop (y_pick_t (v := .bool _) rfl hg57 rfl) rfl rfl rfl ?_
                refine gop (y_move (v := .bool _) rfl) rfl rfl rfl ?_
                refine gop_if (want := true) rfl rfl rfl rfl rfl rfl (fun hg65 => ?_) (fun hg65 => ?_)
                · 
                  have hg65d := not_t hg65
                  refine gop (y_bare (y_move (v := .slice (some ⟨rg2, 0, none⟩) _ _) rfl)) rfl rfl rfl ?_
                  refine gop_on rfl rfl rfl rfl hg65 ?_
                  refine gop (y_bare (y_move (v := .func (.func 53) #[] #[.pointer (some ⟨b12, 0, none⟩)]) rfl)) rfl rfl rfl ?_
                  refine gop_on rfl rfl rfl rfl hg65 ?_
                  refine gop_pure (e_call (vs := [.slice (some ⟨rg2, 0, none⟩) _ _, .func (.func 53) #[] #[.pointer (some ⟨b12, 0, none⟩)]]) Tryd.func55 rfl (by kernel_rfl) rfl) (fun w hM => by have hcl2 : ∀ k' (h : k' < (gs).length) w1, Below w.heap.size w w1 → Calls Tryd.prog 53 (([.slice (gs)[k'].A (gs)[k'].pl.length (gs)[k'].c] : List Value) ++ [Value.pointer (some ⟨b12, 0, none⟩)]).toArray w1 (fun e w2 => e = .returned (.bool ((fun x : List Int => smallerL x gs[k].pl) (gs)[k'].pl)) ∧ Below w1.heap.size w1 w2) := (fun k' hk' w1 hb1 => by have hM1 := hM.call hb1; have hg := hfr _ (hM1.ok _ (List.mem_of_getElem? (i := 3) rfl)) (gs)[k'] (List.getElem_mem hk'); have hq := hfr _ (hM1.ok _ (List.mem_of_getElem? (i := 3) rfl)) gs[k] (List.getElem_mem hk1); exact req2_any w1 _ _ _ (hg.rd.mono (Nat.zero_le _)) (Nat.le_trans hg.len hg.max) b12 _ _ _ (hM1.cell 5 rfl rfl) (hq.rd.mono (Nat.zero_le _)) (Nat.le_trans hq.len hq.max)); have h2 : Rdl w 0 1 gpCells (some ⟨rg2, 0, none⟩) gs := (row_rdl (f := gpCells) (fun _ => rfl) (hM.ok _ (List.mem_of_getElem? (i := 2) rfl))).mono (Nat.zero_le _); have hc := contFuncG_any w _ cv gs h2 (by simp [maxLen]; omega) gs.length rfl 53 _ Tryd.func53 (by kernel_rfl) (by kernel_rfl) [Value.pointer (some ⟨b12, 0, none⟩)] (fun x : List Int => smallerL x gs[k].pl) hcl2; exact hc) rfl rfl rfl ?_
                  refine gop_on rfl rfl rfl rfl hg65 ?_
                  refine gop (y_bare (y_not rfl)) rfl rfl rfl ?_
                  refine gop (y_pick_t (v := .bool _) rfl hg65 rfl) rfl rfl rfl ?_
                  refine gops_nil ?_
                  refine hN28 _ _ ?_
                  refine gfrom [(5, .pointer _), (7, .slice (some ⟨rg2, 0, none⟩) _ _), (10, .slice Bv _ dv), (12, .pointer _), (45, .slice (some ⟨rg2, 0, none⟩) _ _), (46, .int _ _), (47, .int _ _), (70, .bool _)] ⟨rfl, rfl, rfl, rfl, rfl, rfl, rfl, rfl, trivial⟩ fun σ => ?_
                  refine gcond (b := _) rfl (fun hc70 => ?_) (fun hc70 => ?_)
                  · 
                    replace hc70 := not_t hc70
                    have hN : needG (gps gs) k = true := need_yes hk1 (by omega) hg65d hc70
                    refine greg ?_
                    refine gop (y_move (v := .slice Bv _ dv) rfl) rfl rfl rfl ?_
                    refine gop (y_load Tryd.isAgg30 rfl (cell_box 5 rfl rfl)) rfl rfl rfl ?_
                    refine gop_lit (vs := [.slice _ _ _]) (cells := #[_]) Tryd.underlying44 Tryd.sizeOf30 Tryd.zeroValue30 rfl (by decide) (by decide) rfl rfl rfl rfl (fun b73 hb73 => ?_)
                    refine gop_append 4 (f := gpCells) (l2 := [gs[k]]) Tryd.underlying44 el30 wide_gp (v := .slice Bv _ dv) rfl rfl rfl rfl (fun h => by cases h) (by simp [maxLen]; omega) (by simp; omega) (src_box 6 rfl rfl) rfl (fun v74 => ?_)
                    refine gops_fact (fun w hM => own_form (hM.own 4 rfl)) ?_
                    rintro ⟨A74, c74, rfl, hc74, hm74⟩
                    refine gop (y_assign (v := .slice A74 _ c74) rfl) rfl rfl rfl ?_
                    refine gops_nil ?_
                    refine hN24 _ _ ?_
                    refine gT [box b5 _, box b6 _, rowl _ _ _ _ _ _, fr, rowl _ _ _ _ _ _, box b12 _, box b73 _] rfl ?_
                    refine gfrom [(5, .pointer _), (7, .slice (some ⟨rg2, 0, none⟩) _ _), (10, .slice A74 _ c74), (45, .slice (some ⟨rg2, 0, none⟩) _ _), (46, .int _ _), (47, .int _ _)] ⟨rfl, rfl, rfl, rfl, rfl, rfl, trivial⟩ fun σ => ?_
                    refine greg ?_
                    refine gop (y_add rfl rfl ⟨by omega, by omega⟩) rfl rfl rfl ?_
                    refine gop (y_move (v := .int _ _) rfl) rfl rfl rfl ?_
                    refine gops_nil ?_
                    refine gnext2 ((k + 1, A74, c74, og ++ [gs[k]])) (by show gs.length - (k + 1) < gs.length - k; omega) (⟨by show k + 1 ≤ _; omega, req_gs_yes hk1 ho hN, fun a ha => (List.mem_append.1 ha).elim (hin a) (fun h1 => by rw [List.mem_singleton.1 h1]; exact List.getElem_mem hk1)⟩) ⟨rfl, rfl, trivial⟩ ⟨rfl, rfl, rfl, rfl, trivial⟩ ⟨_, rfl⟩
                  · 
                    replace hc70 := not_f hc70
                    have hN : needG (gps gs) k = false := by first | exact need_no1 hk1 (by omega) | exact need_no2 hk1 hg65d | exact need_no3 hk1 hc70
                    refine gskip ?_
                    refine hN24 _ _ ?_
                    refine gfrom [(5, .pointer _), (7, .slice (some ⟨rg2, 0, none⟩) _ _), (10, .slice Bv _ dv), (45, .slice (some ⟨rg2, 0, none⟩) _ _), (46, .int _ _), (47, .int _ _)] ⟨rfl, rfl, rfl, rfl, rfl, rfl, trivial⟩ fun σ => ?_
                    refine greg ?_
                    refine gop (y_add rfl rfl ⟨by omega, by omega⟩) rfl rfl rfl ?_
                    refine gop (y_move (v := .int _ _) rfl) rfl rfl rfl ?_
                    refine gops_nil ?_
                    refine gnext2 ((k + 1, Bv, dv, og)) (by show gs.length - (k + 1) < gs.length - k; omega) (⟨by show k + 1 ≤ _; omega, req_gs_no ho hN, hin⟩) ⟨rfl, rfl, trivial⟩ ⟨rfl, rfl, rfl, rfl, trivial⟩ ⟨_, rfl⟩
                · 
                  have hg65d := not_f hg65
                  refine gop_off rfl rfl rfl rfl hg65 rfl rfl ?_
                  refine gop_off rfl rfl rfl rfl hg65 rfl rfl ?_
                  refine gop_off rfl rfl rfl rfl hg65 rfl rfl ?_
                  refine gop (y_pick_f (v := .bool _) rfl hg65 rfl) rfl rfl rfl ?_
                  refine gops_nil ?_
                  refine hN28 _ _ ?_
                  refine gfrom [(5, .pointer _), (7, .slice (some ⟨rg2, 0, none⟩) _ _), (10, .slice Bv _ dv), (12, .pointer _), (45, .slice (some ⟨rg2, 0, none⟩) _ _), (46, .int _ _), (47, .int _ _), (70, .bool _)] ⟨rfl, rfl, rfl, rfl, rfl, rfl, rfl, rfl, trivial⟩ fun σ => ?_
                  refine gcond (b := _) rfl (fun hc70 => ?_) (fun hc70 => ?_)
                  · 
                    cases hc70
                  · 
                    have hN : needG (gps gs) k = false := by first | exact need_no1 hk1 (by omega) | exact need_no2 hk1 hg65d | exact need_no3 hk1 hc70
                    refine gskip ?_
                    refine hN24 _ _ ?_
                    refine gfrom [(5, .pointer _), (7, .slice (some ⟨rg2, 0, none⟩) _ _), (10, .slice Bv _ dv), (45, .slice (some ⟨rg2, 0, none⟩) _ _), (46, .int _ _), (47, .int _ _)] ⟨rfl, rfl, rfl, rfl, rfl, rfl, trivial⟩ fun σ => ?_
                    refine greg ?_
                    refine gop (y_add rfl rfl ⟨by omega, by omega⟩) rfl rfl rfl ?_
                    refine gop (y_move (v := .int _ _) rfl) rfl rfl rfl ?_
                    refine gops_nil ?_
                    refine gnext2 ((k + 1, Bv, dv, og)) (by show gs.length - (k + 1) < gs.length - k; omega) (⟨by show k + 1 ≤ _; omega, req_gs_no ho hN, hin⟩) ⟨rfl, rfl, trivial⟩ ⟨rfl, rfl, rfl, rfl, trivial⟩ ⟨_, rfl⟩
              · 
                have hg57d := of_decide_eq_false hg57
                refine gop_off rfl rfl rfl rfl hg57 rfl rfl ?_
                refine gop_off rfl rfl rfl rfl hg57 rfl rfl ?_
                refine gop_off rfl rfl rfl rfl hg57 rfl rfl ?_
                refine gop_off rfl rfl rfl rfl hg57 rfl rfl ?_
                refine gop_off rfl rfl rfl rfl hg57 rfl rfl ?_
                refine gop (y_pick_f (v := .bool _) rfl hg57 rfl) rfl rfl rfl ?_
                refine gop (y_move (v := .bool _) rfl) rfl rfl rfl ?_
                refine gop_off rfl rfl rfl rfl rfl rfl rfl ?_
                refine gop_off rfl rfl rfl rfl rfl rfl rfl ?_
                refine gop_off rfl rfl rfl rfl rfl rfl rfl ?_
                refine gop_off rfl rfl rfl rfl rfl rfl rfl ?_
                refine gop (y_pick_f (v := .bool _) rfl rfl rfl) rfl rfl rfl ?_
                refine gops_nil ?_
                refine hN28 _ _ ?_
                refine gfrom [(5, .pointer _), (7, .slice (some ⟨rg2, 0, none⟩) _ _), (10, .slice Bv _ dv), (12, .pointer _), (45, .slice (some ⟨rg2, 0, none⟩) _ _), (46, .int _ _), (47, .int _ _), (70, .bool _)] ⟨rfl, rfl, rfl, rfl, rfl, rfl, rfl, rfl, trivial⟩ fun σ => ?_
                refine gcond (b := _) rfl (fun hc70 => ?_) (fun hc70 => ?_)
                · 
                  cases hc70
                · 
                  have hN : needG (gps gs) k = false := by first | exact need_no1 hk1 (by omega) | exact need_no2 hk1 hg65d | exact need_no3 hk1 hc70
                  refine gskip ?_
                  refine hN24 _ _ ?_
                  refine gfrom [(5, .pointer _), (7, .slice (some ⟨rg2, 0, none⟩) _ _), (10, .slice Bv _ dv), (45, .slice (some ⟨rg2, 0, none⟩) _ _), (46, .int _ _), (47, .int _ _)] ⟨rfl, rfl, rfl, rfl, rfl, rfl, trivial⟩ fun σ => ?_
                  refine greg ?_
                  refine gop (y_add rfl rfl ⟨by omega, by omega⟩) rfl rfl rfl ?_
                  refine gop (y_move (v := .int _ _) rfl) rfl rfl rfl ?_
                  refine gops_nil ?_
                  refine gnext2 ((k + 1, Bv, dv, og)) (by show gs.length - (k + 1) < gs.length - k; omega) (⟨by show k + 1 ≤ _; omega, req_gs_no ho hN, hin⟩) ⟨rfl, rfl, trivial⟩ ⟨rfl, rfl, rfl, rfl, trivial⟩ ⟨_, rfl⟩
            · 
              replace hc48 := of_decide_eq_false hc48
              have hV : gps og = reqV (rls rs) ps := by rw [reqV, if_pos hFF, ← hgs, ← hgn, ho, show k = gs.length by omega]
              refine gexit ?_
              refine hN20 _ _ ?_
              refine gfrom [(5, .pointer _), (10, .slice Bv _ dv)] ⟨rfl, rfl, trivial⟩ fun σ => ?_
              refine gseq fun N29 hN29 => ?_
              refine greg ?_
              refine gop (y_move (v := .slice Bv _ dv) rfl) rfl rfl rfl ?_
              refine gop (y_build (vs := []) (cells := #[.int .i64 0, .int .i64 0]) rfl bd23_) rfl rfl rfl ?_
              refine gop (y_assign (v := .slice Bv _ dv) rfl) rfl rfl rfl ?_
              refine gop_store 0 (v := .agg #[_, _]) (cs' := #[_, _]) rfl rfl Tryd.sizeOf23 rfl rfl rfl rfl (Nat.le_of_ble_eq_true rfl) rfl rfl ?_
              refine gops_nil ?_
              refine hN29 _ _ ?_
              refine gT [box b5 _, box b6 _, rowl _ _ _ _ _ _, fr, rowl _ _ _ _ _ _] rfl ?_
              refine gfrom [(4, .slice Bv _ dv), (5, .pointer _)] ⟨rfl, rfl, trivial⟩ fun σ => ?_
              refine gret fun w1 hM => ?_
              refine ⟨_, res2 rfl (rt (v := .slice Bv _ dv) rfl) (rc 0 (cs := [_, _]) hM rfl rfl Tryd.isAgg23 Tryd.sizeOf23 rfl), ?_⟩
              exact ⟨_, _, og, fr, by rw [hFF], rfl, hV, fun w1 h1 a ha => hfr w1 h1 a (hin a ha), (weak_toend 3 rfl _ hM).dropTo 3 rfl⟩
end Go.Proofs.YtijpaljdclhehaaDoor
namespace Go.Proofs.YtijpaljdclhehaaDoor
open Go.RowKit Go.Cf
set_option maxRecDepth 10000
set_option maxHeartbeats 2000000 in
theorem within_any (w : World) (A : Option Addr) (c : Nat) (a : List Int) (ha : Rdl w 0 1 intCells A a) (han : a.length ≤ maxLen) (B : Option Addr) (d : Nat) (b : List Int) (hb : Rdl w 0 1 intCells B b) (hbn : b.length ≤ maxLen) : Calls Tryd.prog 26 #[.slice A a.length c, .slice B b.length d] w fun e w' => e = .returned (.bool (withinB a b)) ∧ Below w.heap.size w w' := by
  unfold maxLen at han hbn
  refine gcalls Tryd.func26 rfl Tryd.ntmps26 (Nat.le_of_ble_eq_true rfl) ?_
  refine gfrom [(0, .slice _ _ _), (1, .slice _ _ _)] ⟨rfl, rfl, trivial⟩ fun σ => ?_
  refine gseq fun N1 hN1 => ?_
  refine greg ?_
  refine gop (y_assign (v := .bool _) rfl) rfl rfl rfl ?_
  refine gops_nil ?_
  refine hN1 _ _ ?_
  refine gfrom [(0, .slice _ _ _), (1, .slice _ _ _)] ⟨rfl, rfl, trivial⟩ fun σ => ?_
  refine gseq fun N2 hN2 => ?_
  refine gseq fun N3 hN3 => ?_
  refine greg ?_
  refine gop (y_assign (v := .int _ _) rfl) rfl rfl rfl ?_
  refine gops_nil ?_
  refine hN3 _ _ ?_
  refine gfrom [(0, .slice _ _ _), (1, .slice _ _ _), (5, .int _ _)] ⟨rfl, rfl, rfl, trivial⟩ fun σ => ?_
  refine gblock ?_
  refine gfrom2 [(5, .int _ _)] [(0, .slice _ _ _), (1, .slice _ _ _)] ⟨rfl, trivial⟩ ⟨rfl, rfl, trivial⟩ fun σ => ?_
  refine gloop2 (G := Nat) (fun k => k ≤ a.length ∧ ∀ j (h : j < a.length), j < k → hasI b a[j] = true) (fun k => a.length - k) (fun k => [(5, .int .i64 (k : Int))]) (fun k => []) (0) ?h0 ⟨rfl, trivial⟩ ⟨rfl, rfl, trivial⟩ rfl ?round
  case h0 => exact ⟨Nat.zero_le _, fun _ _ h => absurd h (by omega)⟩
  case round =>
    intro k hφ σ
    obtain ⟨hk, hz⟩ := hφ
    refine gseq fun N4 hN4 => ?_
    refine gseq fun N5 hN5 => ?_
    refine greg ?_
    refine gop (y_move (v := .int _ _) rfl) rfl rfl rfl ?_
    refine gop (y_move (v := .slice _ _ _) rfl) rfl rfl rfl ?_
    refine gop (y_len Tryd.underlying30 rfl) rfl rfl rfl ?_
    refine gop (y_lss rfl rfl) rfl rfl rfl ?_
    refine gops_nil ?_
    refine hN5 _ _ ?_
    refine gfrom [(0, .slice _ _ _), (1, .slice _ _ _), (5, .int _ _), (11, .bool _)] ⟨rfl, rfl, rfl, rfl, trivial⟩ fun σ => ?_
    refine gcond (b := _) rfl (fun hc11 => ?_) (fun hc11 => ?_)
    · 
      replace hc11 := of_decide_eq_true hc11
      have hk1 : k < a.length := by omega
      obtain ⟨ad, rfl, -, hca⟩ := ha.at_ hk1
      refine gskip ?_
      refine hN4 _ _ ?_
      refine gfrom [(0, .slice _ _ _), (1, .slice _ _ _), (5, .int _ _)] ⟨rfl, rfl, rfl, trivial⟩ fun σ => ?_
      refine gseq fun N6 hN6 => ?_
      refine gblock ?_
      refine gseq fun N7 hN7 => ?_
      refine greg ?_
      refine gop (y_assign (v := .bool _) rfl) rfl rfl rfl ?_
      refine gops_nil ?_
      refine hN7 _ _ ?_
      refine gfrom [(0, .slice _ _ _), (1, .slice _ _ _), (5, .int _ _), (6, .bool _)] ⟨rfl, rfl, rfl, rfl, trivial⟩ fun σ => ?_
      refine gseq fun N8 hN8 => ?_
      refine gseq fun N9 hN9 => ?_
      refine greg ?_
      refine gop (y_assign (v := .int _ _) rfl) rfl rfl rfl ?_
      refine gops_nil ?_
      refine hN9 _ _ ?_
      refine gfrom [(0, .slice _ _ _), (1, .slice _ _ _), (5, .int _ _), (6, .bool _), (7, .int _ _)] ⟨rfl, rfl, rfl, rfl, rfl, trivial⟩ fun σ => ?_
      refine gblock ?_
      refine gfrom2 [(6, .bool _), (7, .int _ _)] [(0, .slice _ _ _), (1, .slice _ _ _), (5, .int _ _)] ⟨rfl, rfl, trivial⟩ ⟨rfl, rfl, rfl, trivial⟩ fun σ => ?_
      refine gloop2 (G := Nat) (fun j => j ≤ b.length) (fun j => b.length - j) (fun j => [(6, .bool (hasI (b.take j) a[k])), (7, .int .i64 (j : Int))]) (fun j => []) (0) ?h0 ⟨rfl, rfl, trivial⟩ ⟨rfl, rfl, rfl, trivial⟩ rfl ?round
      case h0 => exact Nat.zero_le _
      case round =>
        intro j hφ σ
        have hj : j ≤ b.length := hφ
        refine gseq fun N10 hN10 => ?_
        refine gseq fun N11 hN11 => ?_
        refine greg ?_
        refine gop (y_move (v := .int _ _) rfl) rfl rfl rfl ?_
        refine gop (y_move (v := .slice _ _ _) rfl) rfl rfl rfl ?_
        refine gop (y_len Tryd.underlying30 rfl) rfl rfl rfl ?_
        refine gop (y_lss rfl rfl) rfl rfl rfl ?_
        refine gops_nil ?_
        refine hN11 _ _ ?_
        refine gfrom [(0, .slice _ _ _), (1, .slice _ _ _), (5, .int _ _), (6, .bool _), (7, .int _ _), (17, .bool _)] ⟨rfl, rfl, rfl, rfl, rfl, rfl, trivial⟩ fun σ => ?_
        refine gcond (b := _) rfl (fun hc17 => ?_) (fun hc17 => ?_)
        · 
          replace hc17 := of_decide_eq_true hc17
          have hj1 : j < b.length := by omega
          obtain ⟨ad', rfl, -, hcb⟩ := hb.at_ hj1
          refine gskip ?_
          refine hN10 _ _ ?_
          refine gfrom [(0, .slice _ _ _), (1, .slice _ _ _), (5, .int _ _), (6, .bool _), (7, .int _ _)] ⟨rfl, rfl, rfl, rfl, rfl, trivial⟩ fun σ => ?_
          refine gseq fun N12 hN12 => ?_
          refine gblock ?_
          refine gseq fun N13 hN13 => ?_
          refine greg_q (by kernel_rfl) (by kernel_rfl) ?_
          refine gq (y_move (v := .slice _ _ _) rfl) rfl rfl rfl ?_
          refine gq (y_move (v := .int _ _) rfl) rfl rfl rfl ?_
          refine gq (y_indexAddr (m := k) Tryd.underlying30 Tryd.sizeOf3 rfl rfl (by omega) (by omega) (by omega)) rfl rfl rfl ?_
          refine gq (y_load Tryd.isAgg3 rfl (cell_base (hca 0 _ rfl))) rfl rfl rfl ?_
          refine gq (y_move (v := .slice _ _ _) rfl) rfl rfl rfl ?_
          refine gq (y_move (v := .int _ _) rfl) rfl rfl rfl ?_
          refine gq (y_indexAddr (m := j) Tryd.underlying30 Tryd.sizeOf3 rfl rfl (by omega) (by omega) (by omega)) rfl rfl rfl ?_
          refine gq (y_load Tryd.isAgg3 rfl (cell_base (hcb 0 _ rfl))) rfl rfl rfl ?_
          refine gq (y_eql rfl rfl) rfl rfl rfl ?_
          refine gqs_nil ?_
          refine hN13 _ _ ?_
          refine gfrom [(0, .slice _ _ _), (1, .slice _ _ _), (5, .int _ _), (6, .bool _), (7, .int _ _), (28, .bool _)] ⟨rfl, rfl, rfl, rfl, rfl, rfl, trivial⟩ fun σ => ?_
          refine gcond (b := _) rfl (fun hc28 => ?_) (fun hc28 => ?_)
          · 
            replace hc28 := of_decide_eq_true hc28
            refine greg ?_
            refine gop (y_assign (v := .bool _) rfl) rfl rfl rfl ?_
            refine gops_nil ?_
            refine hN12 _ _ ?_
            refine gfrom [(0, .slice _ _ _), (1, .slice _ _ _), (5, .int _ _), (6, .bool _), (7, .int _ _)] ⟨rfl, rfl, rfl, rfl, rfl, trivial⟩ fun σ => ?_
            refine greg ?_
            refine gop (y_move (v := .int _ _) rfl) rfl rfl rfl ?_
            refine gop (y_add rfl rfl ⟨by omega, by omega⟩) rfl rfl rfl ?_
            refine gop (y_assign (v := .int _ _) rfl) rfl rfl rfl ?_
            refine gops_nil ?_
            refine gnext2 (j + 1) (by omega) (show j + 1 ≤ _ by omega) ⟨congrArg Value.bool (by first | (rw [hasI_take hj1, decide_eq_true hc28]; simp) | (rw [hasI_take hj1, decide_eq_false hc28]; simp)), rfl, trivial⟩ ⟨rfl, rfl, rfl, trivial⟩ ⟨_, rfl⟩
          · 
            replace hc28 := of_decide_eq_false hc28
            refine gskip ?_
            refine hN12 _ _ ?_
            refine gfrom [(0, .slice _ _ _), (1, .slice _ _ _), (5, .int _ _), (6, .bool _), (7, .int _ _)] ⟨rfl, rfl, rfl, rfl, rfl, trivial⟩ fun σ => ?_
            refine greg ?_
            refine gop (y_move (v := .int _ _) rfl) rfl rfl rfl ?_
            refine gop (y_add rfl rfl ⟨by omega, by omega⟩) rfl rfl rfl ?_
            refine gop (y_assign (v := .int _ _) rfl) rfl rfl rfl ?_
            refine gops_nil ?_
            refine gnext2 (j + 1) (by omega) (show j + 1 ≤ _ by omega) ⟨congrArg Value.bool (by first | (rw [hasI_take hj1, decide_eq_true hc28]; simp) | (rw [hasI_take hj1, decide_eq_false hc28]; simp)), rfl, trivial⟩ ⟨rfl, rfl, rfl, trivial⟩ ⟨_, rfl⟩
        · 
          replace hc17 := of_decide_eq_false hc17
          have hfj : hasI (b.take j) a[k] = hasI b a[k] := by rw [List.take_of_length_le (by omega)]
          refine gexit ?_
          refine hN8 _ _ ?_
          refine gfrom [(0, .slice _ _ _), (1, .slice _ _ _), (5, .int _ _), (6, .bool _)] ⟨rfl, rfl, rfl, rfl, trivial⟩ fun σ => ?_
          refine gseq fun N14 hN14 => ?_
          refine greg ?_
          refine gop (y_move (v := .bool _) rfl) rfl rfl rfl ?_
          refine gop (y_not rfl) rfl rfl rfl ?_
          refine gops_nil ?_
          refine hN14 _ _ ?_
          refine gfrom [(0, .slice _ _ _), (1, .slice _ _ _), (5, .int _ _), (30, .bool _)] ⟨rfl, rfl, rfl, rfl, trivial⟩ fun σ => ?_
          refine gcond (b := _) rfl (fun hc30 => ?_) (fun hc30 => ?_)
          · 
            replace hc30 := not_t hc30
            refine gseq fun N15 hN15 => ?_
            refine greg ?_
            refine gop (y_assign (v := .bool _) rfl) rfl rfl rfl ?_
            refine gops_nil ?_
            refine hN15 _ _ ?_
            refine gfrom [(4, .bool _)] ⟨rfl, trivial⟩ fun σ => ?_
            refine gret fun w1 hM => ?_
            refine ⟨_, res1 rfl (rt (v := .bool _) rfl), ?_⟩
            exact ⟨by rw [withinB_no hk1 (by rw [← hfj]; exact hc30)], hM.low⟩
          · 
            replace hc30 := not_f hc30
            refine gskip ?_
            refine hN6 _ _ ?_
            refine gfrom [(0, .slice _ _ _), (1, .slice _ _ _), (5, .int _ _)] ⟨rfl, rfl, rfl, trivial⟩ fun σ => ?_
            refine greg ?_
            refine gop (y_move (v := .int _ _) rfl) rfl rfl rfl ?_
            refine gop (y_add rfl rfl ⟨by omega, by omega⟩) rfl rfl rfl ?_
            refine gop (y_assign (v := .int _ _) rfl) rfl rfl rfl ?_
            refine gops_nil ?_
            refine gnext2 (k + 1) (by omega) (⟨by omega, fun j h hj => by rcases Nat.lt_succ_iff_lt_or_eq.1 hj with h1 | rfl; exact hz j h h1; rw [← hfj]; exact hc30⟩) ⟨rfl, trivial⟩ ⟨rfl, rfl, trivial⟩ ⟨_, rfl⟩
    · 
      replace hc11 := of_decide_eq_false hc11
      refine gexit ?_
      refine hN2 _ _ ?_
      refine gfrom [] trivial fun σ => ?_
      refine gseq fun N16 hN16 => ?_
      refine greg ?_
      refine gop (y_assign (v := .bool _) rfl) rfl rfl rfl ?_
      refine gops_nil ?_
      refine hN16 _ _ ?_
      refine gfrom [(4, .bool _)] ⟨rfl, trivial⟩ fun σ => ?_
      refine gret fun w1 hM => ?_
      refine ⟨_, res1 rfl (rt (v := .bool _) rfl), ?_⟩
      exact ⟨by rw [withinB_yes (fun j h => hz j h (by omega))], hM.low⟩
end Go.Proofs.YtijpaljdclhehaaDoor
namespace Go.Proofs.YtijpaljdclhehaaDoor
open Go.RowKit Go.Cf
set_option maxRecDepth 10000
set_option maxHeartbeats 4000000 in
theorem refRuleCode_any (w : World) (pat : ByteArray) (us : List Int) (A : Option Addr) (c : Nat) (hR : RuleR w 0 ⟨⟨pat, us⟩, A, c⟩) : Calls Tryd.prog 56 #[.agg #[.string pat, .slice A us.length c]] w fun e w' => e = .returned (.int .i64 (ruleCode ⟨pat, us⟩)) ∧ Below w.heap.size w w' := by
  have hmx : c ≤ maxLen := hR.sb.max
  have hln : us.length ≤ c := hR.sb.len
  have hrd : Rdl w 0 1 intCells A us := hR.rd
  unfold maxLen at hmx
  refine gcalls Tryd.func56 rfl Tryd.ntmps56 (Nat.le_of_ble_eq_true rfl) ?_
  refine gfrom [(0, .agg #[_, _])] ⟨rfl, trivial⟩ fun σ => ?_
  refine gseq fun N1 hN1 => ?_
  refine greg ?_
  refine gop_box (v := .agg #[_, _]) (cs := #[_, _]) rfl rfl rfl (fun b1 hb1 => ?_)
  refine gop (y_assign (v := .int _ _) rfl) rfl rfl rfl ?_
  refine gops_nil ?_
  refine hN1 _ _ ?_
  refine gT [box b1 _] rfl ?_
  refine gfrom [(1, .pointer _)] ⟨rfl, trivial⟩ fun σ => ?_
  refine gseq fun N2 hN2 => ?_
  refine gseq fun N3 hN3 => ?_
  refine greg ?_
  refine gop (y_fieldAddr_box fa32_0 rfl) rfl rfl rfl ?_
  refine gop (y_load Tryd.isAgg9 rfl (cell_box 0 rfl rfl)) rfl rfl rfl ?_
  refine gop_pure (e_call (vs := [.string _]) Tryd.func36 rfl (by kernel_rfl) rfl) (fun w hM => patternCode_any w _) rfl rfl rfl ?_
  refine gop (y_neq rfl rfl) rfl rfl rfl ?_
  refine gops_nil ?_
  refine hN3 _ _ ?_
  refine gfrom [(1, .pointer _), (8, .bool _)] ⟨rfl, rfl, trivial⟩ fun σ => ?_
  refine gcond (b := _) rfl (fun hc8 => ?_) (fun hc8 => ?_)
  · 
    replace hc8 := of_decide_eq_true hc8
    have hC : ruleCode ⟨pat, us⟩ = (patCode pat : Int) := by rw [ruleCode, if_pos (show patCode pat ≠ 0 by omega)]
    refine gseq fun N4 hN4 => ?_
    refine greg ?_
    refine gop (y_fieldAddr_box fa32_0 rfl) rfl rfl rfl ?_
    refine gop (y_load Tryd.isAgg9 rfl (cell_box 0 rfl rfl)) rfl rfl rfl ?_
    refine gop_pure (e_call (vs := [.string _]) Tryd.func36 rfl (by kernel_rfl) rfl) (fun w hM => patternCode_any w _) rfl rfl rfl ?_
    refine gop (y_assign (v := .int _ _) rfl) rfl rfl rfl ?_
    refine gops_nil ?_
    refine hN4 _ _ ?_
    refine gfrom [(2, .int _ _)] ⟨rfl, trivial⟩ fun σ => ?_
    refine gret fun w1 hM => ?_
    refine ⟨_, res1 rfl (rt (v := .int _ _) rfl), ?_⟩
    exact ⟨by rw [hC], hM.low⟩
  · 
    replace hc8 := Decidable.not_not.1 (of_decide_eq_false hc8)
    have hp0 : patCode pat = 0 := by omega
    refine gskip ?_
    refine hN2 _ _ ?_
    refine gfrom [(1, .pointer _)] ⟨rfl, trivial⟩ fun σ => ?_
    refine gseq fun N5 hN5 => ?_
    refine gseq fun N6 hN6 => ?_
    refine greg ?_
    refine gop (y_fieldAddr_box fa32_1 rfl) rfl rfl rfl ?_
    refine gop (y_load Tryd.isAgg30 rfl (cell_box 0 rfl rfl)) rfl rfl rfl ?_
    refine gop (y_len Tryd.underlying30 rfl) rfl rfl rfl ?_
    refine gop (y_gtr rfl rfl) rfl rfl rfl ?_
    refine gops_nil ?_
    refine hN6 _ _ ?_
    refine gfrom [(1, .pointer _), (15, .bool _)] ⟨rfl, rfl, trivial⟩ fun σ => ?_
    refine gcond (b := _) rfl (fun hc15 => ?_) (fun hc15 => ?_)
    · 
      replace hc15 := of_decide_eq_true hc15
      have hC : ruleCode ⟨pat, us⟩ = 2 := by rw [ruleCode, if_neg (fun h => h hp0), if_pos (show 4 < us.length by omega)]
      refine gseq fun N7 hN7 => ?_
      refine greg ?_
      refine gop (y_assign (v := .int _ _) rfl) rfl rfl rfl ?_
      refine gops_nil ?_
      refine hN7 _ _ ?_
      refine gfrom [(2, .int _ _)] ⟨rfl, trivial⟩ fun σ => ?_
      refine gret fun w1 hM => ?_
      refine ⟨_, res1 rfl (rt (v := .int _ _) rfl), ?_⟩
      exact ⟨by rw [hC], hM.low⟩
    · 
      replace hc15 := of_decide_eq_false hc15
      have hC : ruleCode ⟨pat, us⟩ = uCode (-1) us := by rw [ruleCode, if_neg (fun h => h hp0), if_neg (show ¬ 4 < us.length by omega)]
      refine gskip ?_
      refine hN5 _ _ ?_
      refine gfrom [(1, .pointer _)] ⟨rfl, trivial⟩ fun σ => ?_
      refine gseq fun N8 hN8 => ?_
      refine greg ?_
      refine gop (y_assign (v := .int _ _) rfl) rfl rfl rfl ?_
      refine gops_nil ?_
      refine hN8 _ _ ?_
      refine gfrom [(1, .pointer _), (3, .int _ _)] ⟨rfl, rfl, trivial⟩ fun σ => ?_
      refine gseq fun N9 hN9 => ?_
      refine gseq fun N10 hN10 => ?_
      refine greg ?_
      refine gop (y_assign (v := .int _ _) rfl) rfl rfl rfl ?_
      refine gops_nil ?_
      refine hN10 _ _ ?_
      refine gfrom [(1, .pointer _), (3, .int _ _), (4, .int _ _)] ⟨rfl, rfl, rfl, trivial⟩ fun σ => ?_
      refine gblock ?_
      refine gfrom2 [(3, .int _ _), (4, .int _ _)] [(1, .pointer _)] ⟨rfl, rfl, trivial⟩ ⟨rfl, trivial⟩ fun σ => ?_
      refine gloop2 (G := Nat) (fun k => k ≤ us.length ∧ uCode (prevU us k) (us.drop k) = uCode (-1) us) (fun k => us.length - k) (fun k => [(3, .int .i64 (prevU us k)), (4, .int .i64 (k : Int))]) (fun k => []) (0) ?h0 ⟨rfl, rfl, trivial⟩ ⟨rfl, trivial⟩ rfl ?round
      case h0 => exact ⟨Nat.zero_le _, rfl⟩
      case round =>
        intro k hφ σ
        obtain ⟨hk, hu⟩ := hφ
        refine gseq fun N11 hN11 => ?_
        refine gseq fun N12 hN12 => ?_
        refine greg ?_
        refine gop (y_move (v := .int _ _) rfl) rfl rfl rfl ?_
        refine gop (y_fieldAddr_box fa32_1 rfl) rfl rfl rfl ?_
        refine gop (y_load Tryd.isAgg30 rfl (cell_box 0 rfl rfl)) rfl rfl rfl ?_
        refine gop (y_len Tryd.underlying30 rfl) rfl rfl rfl ?_
        refine gop (y_lss rfl rfl) rfl rfl rfl ?_
        refine gops_nil ?_
        refine hN12 _ _ ?_
        refine gfrom [(1, .pointer _), (3, .int _ _), (4, .int _ _), (20, .bool _)] ⟨rfl, rfl, rfl, rfl, trivial⟩ fun σ => ?_
        refine gcond (b := _) rfl (fun hc20 => ?_) (fun hc20 => ?_)
        · 
          replace hc20 := of_decide_eq_true hc20
          have hk1 : k < us.length := by omega
          obtain ⟨ad, rfl, -, hca⟩ := hrd.at_ hk1
          refine gskip ?_
          refine hN11 _ _ ?_
          refine gfrom [(1, .pointer _), (3, .int _ _), (4, .int _ _)] ⟨rfl, rfl, rfl, trivial⟩ fun σ => ?_
          refine gseq fun N13 hN13 => ?_
          refine gblock ?_
          refine gseq fun N14 hN14 => ?_
          refine gseq fun N15 hN15 => ?_
          refine greg ?_
          refine gop (y_fieldAddr_box fa32_1 rfl) rfl rfl rfl ?_
          refine gop (y_load Tryd.isAgg30 rfl (cell_box 0 rfl rfl)) rfl rfl rfl ?_
          refine gop (y_move (v := .int _ _) rfl) rfl rfl rfl ?_
          refine gop (y_indexAddr (m := k) Tryd.underlying30 Tryd.sizeOf3 rfl rfl (by omega) (by omega) (by omega)) rfl rfl rfl ?_
          refine gop (y_load Tryd.isAgg3 rfl (cell_base (hca 0 _ rfl))) rfl rfl rfl ?_
          refine gop (y_lss rfl rfl) rfl rfl rfl ?_
          refine gop (y_move (v := .bool _) rfl) rfl rfl rfl ?_
          refine gop_if (want := false) rfl rfl rfl rfl rfl rfl (fun hg29 => ?_) (fun hg29 => ?_)
          · 
            have hg29d := of_decide_eq_false hg29
            refine gop (y_bare (y_fieldAddr_box fa32_1 rfl)) rfl rfl rfl ?_
            refine gop_on rfl rfl rfl rfl hg29 ?_
            refine gop (y_bare (y_load Tryd.isAgg30 rfl (cell_box 0 rfl rfl))) rfl rfl rfl ?_
            refine gop_on rfl rfl rfl rfl hg29 ?_
            refine gop (y_bare (y_move (v := .int _ _) rfl)) rfl rfl rfl ?_
            refine gop_on rfl rfl rfl rfl hg29 ?_
            refine gop (y_bare (y_indexAddr (m := k) Tryd.underlying30 Tryd.sizeOf3 rfl rfl (by omega) (by omega) (by omega))) rfl rfl rfl ?_
            refine gop_on rfl rfl rfl rfl hg29 ?_
            refine gop (y_bare (y_load Tryd.isAgg3 rfl (cell_base (hca 0 _ rfl)))) rfl rfl rfl ?_
            refine gop_on rfl rfl rfl rfl hg29 ?_
            refine gop (y_bare (y_gtr rfl rfl)) rfl rfl rfl ?_
            refine gop (y_pick_f (v := .bool _) rfl hg29 rfl) rfl rfl rfl ?_
            refine gops_nil ?_
            refine hN15 _ _ ?_
            refine gfrom [(1, .pointer _), (3, .int _ _), (4, .int _ _), (36, .bool _)] ⟨rfl, rfl, rfl, rfl, trivial⟩ fun σ => ?_
            refine gcond (b := _) rfl (fun hc36 => ?_) (fun hc36 => ?_)
            · 
              replace hc36 := of_decide_eq_true hc36
              refine gseq fun N16 hN16 => ?_
              refine greg ?_
              refine gop (y_assign (v := .int _ _) rfl) rfl rfl rfl ?_
              refine gops_nil ?_
              refine hN16 _ _ ?_
              refine gfrom [(2, .int _ _)] ⟨rfl, trivial⟩ fun σ => ?_
              refine gret fun w1 hM => ?_
              refine ⟨_, res1 rfl (rt (v := .int _ _) rfl), ?_⟩
              exact ⟨by rw [hC, ← hu, uCode_bad hk1 (by omega)], hM.low⟩
            · 
              replace hc36 := of_decide_eq_false hc36
              refine gskip ?_
              refine hN14 _ _ ?_
              refine gfrom [(1, .pointer _), (3, .int _ _), (4, .int _ _)] ⟨rfl, rfl, rfl, trivial⟩ fun σ => ?_
              refine gseq fun N17 hN17 => ?_
              refine gseq fun N18 hN18 => ?_
              refine greg ?_
              refine gop (y_fieldAddr_box fa32_1 rfl) rfl rfl rfl ?_
              refine gop (y_load Tryd.isAgg30 rfl (cell_box 0 rfl rfl)) rfl rfl rfl ?_
              refine gop (y_move (v := .int _ _) rfl) rfl rfl rfl ?_
              refine gop (y_indexAddr (m := k) Tryd.underlying30 Tryd.sizeOf3 rfl rfl (by omega) (by omega) (by omega)) rfl rfl rfl ?_
              refine gop (y_load Tryd.isAgg3 rfl (cell_base (hca 0 _ rfl))) rfl rfl rfl ?_
              refine gop (y_move (v := .int _ _) rfl) rfl rfl rfl ?_
              refine gop (y_leq rfl rfl) rfl rfl rfl ?_
              refine gops_nil ?_
              refine hN18 _ _ ?_
              refine gfrom [(1, .pointer _), (4, .int _ _), (43, .bool _)] ⟨rfl, rfl, rfl, trivial⟩ fun σ => ?_
              refine gcond (b := _) rfl (fun hc43 => ?_) (fun hc43 => ?_)
              · 
                replace hc43 := of_decide_eq_true hc43
                refine gseq fun N19 hN19 => ?_
                refine greg ?_
                refine gop (y_assign (v := .int _ _) rfl) rfl rfl rfl ?_
                refine gops_nil ?_
                refine hN19 _ _ ?_
                refine gfrom [(2, .int _ _)] ⟨rfl, trivial⟩ fun σ => ?_
                refine gret fun w1 hM => ?_
                refine ⟨_, res1 rfl (rt (v := .int _ _) rfl), ?_⟩
                exact ⟨by rw [hC, ← hu, uCode_old hk1 (by omega) hc43], hM.low⟩
              · 
                replace hc43 := of_decide_eq_false hc43
                refine gskip ?_
                refine hN17 _ _ ?_
                refine gfrom [(1, .pointer _), (4, .int _ _)] ⟨rfl, rfl, trivial⟩ fun σ => ?_
                refine greg ?_
                refine gop (y_fieldAddr_box fa32_1 rfl) rfl rfl rfl ?_
                refine gop (y_load Tryd.isAgg30 rfl (cell_box 0 rfl rfl)) rfl rfl rfl ?_
                refine gop (y_move (v := .int _ _) rfl) rfl rfl rfl ?_
                refine gop (y_indexAddr (m := k) Tryd.underlying30 Tryd.sizeOf3 rfl rfl (by omega) (by omega) (by omega)) rfl rfl rfl ?_
                refine gop (y_load Tryd.isAgg3 rfl (cell_base (hca 0 _ rfl))) rfl rfl rfl ?_
                refine gop (y_assign (v := .int _ _) rfl) rfl rfl rfl ?_
                refine gops_nil ?_
                refine hN13 _ _ ?_
                refine gfrom [(1, .pointer _), (3, .int _ _), (4, .int _ _)] ⟨rfl, rfl, rfl, trivial⟩ fun σ => ?_
                refine greg ?_
                refine gop (y_move (v := .int _ _) rfl) rfl rfl rfl ?_
                refine gop (y_add rfl rfl ⟨by omega, by omega⟩) rfl rfl rfl ?_
                refine gop (y_assign (v := .int _ _) rfl) rfl rfl rfl ?_
                refine gops_nil ?_
                refine gnext2 (k + 1) (by omega) (⟨by omega, (uCode_next hk1 (by omega) hc43).symm.trans hu⟩) ⟨congrArg (Value.int .i64) (prevU_succ hk1).symm, rfl, trivial⟩ ⟨rfl, trivial⟩ ⟨_, rfl⟩
          · 
            have hg29d := of_decide_eq_true hg29
            refine gop_off rfl rfl rfl rfl hg29 rfl rfl ?_
            refine gop_off rfl rfl rfl rfl hg29 rfl rfl ?_
            refine gop_off rfl rfl rfl rfl hg29 rfl rfl ?_
            refine gop_off rfl rfl rfl rfl hg29 rfl rfl ?_
            refine gop_off rfl rfl rfl rfl hg29 rfl rfl ?_
            refine gop (y_pick_t (v := .bool _) rfl hg29 rfl) rfl rfl rfl ?_
            refine gops_nil ?_
            refine hN15 _ _ ?_
            refine gfrom [(1, .pointer _), (3, .int _ _), (4, .int _ _), (36, .bool _)] ⟨rfl, rfl, rfl, rfl, trivial⟩ fun σ => ?_
            refine gcond (b := _) rfl (fun hc36 => ?_) (fun hc36 => ?_)
            · 
              refine gseq fun N20 hN20 => ?_
              refine greg ?_
              refine gop (y_assign (v := .int _ _) rfl) rfl rfl rfl ?_
              refine gops_nil ?_
              refine hN20 _ _ ?_
              refine gfrom [(2, .int _ _)] ⟨rfl, trivial⟩ fun σ => ?_
              refine gret fun w1 hM => ?_
              refine ⟨_, res1 rfl (rt (v := .int _ _) rfl), ?_⟩
              exact ⟨by rw [hC, ← hu, uCode_bad hk1 (by omega)], hM.low⟩
            · 
              cases hc36
        · 
          replace hc20 := of_decide_eq_false hc20
          have hE : uCode (-1) us = 0 := by rw [← hu]; exact uCode_end (by omega)
          refine gexit ?_
          refine hN9 _ _ ?_
          refine gfrom [] trivial fun σ => ?_
          refine gseq fun N21 hN21 => ?_
          refine greg ?_
          refine gop (y_assign (v := .int _ _) rfl) rfl rfl rfl ?_
          refine gops_nil ?_
          refine hN21 _ _ ?_
          refine gfrom [(2, .int _ _)] ⟨rfl, trivial⟩ fun σ => ?_
          refine gret fun w1 hM => ?_
          refine ⟨_, res1 rfl (rt (v := .int _ _) rfl), ?_⟩
          exact ⟨by rw [hC, hE], hM.low⟩
set_option maxHeartbeats 2000000 in
theorem refRulesFault_any (w : World) (A : Option Addr) (c : Nat) (rs : List RuleC) (hR : RulesR w 0 A c rs) : Calls Tryd.prog 27 #[.slice A rs.length c] w fun e w' => e = .returned (fv (rulesF (rls rs))) ∧ Below w.heap.size w w' := by
  have hln := hR.sb.len
  have hmx := hR.sb.max
  unfold maxLen at hmx
  refine gcalls Tryd.func27 rfl Tryd.ntmps27 (Nat.le_of_ble_eq_true rfl) ?_
  refine gfrom [(0, .slice _ _ _)] ⟨rfl, trivial⟩ fun σ => ?_
  refine gseq fun N1 hN1 => ?_
  refine greg ?_
  refine gop_alloc (cs := #[.int .i64 0, .int .i64 0]) Tryd.zeroValue23 rfl rfl (fun b2 hb2 => ?_)
  refine gops_nil ?_
  refine hN1 _ _ ?_
  refine gT [box b2 _] rfl ?_
  refine gfrom [(0, .slice _ _ _), (2, .pointer _)] ⟨rfl, rfl, trivial⟩ fun σ => ?_
  refine gseq fun N2 hN2 => ?_
  refine gseq fun N3 hN3 => ?_
  refine greg ?_
  refine gop (y_move (v := .slice _ _ _) rfl) rfl rfl rfl ?_
  refine gop (y_len Tryd.underlying29 rfl) rfl rfl rfl ?_
  refine gop (y_gtr rfl rfl) rfl rfl rfl ?_
  refine gops_nil ?_
  refine hN3 _ _ ?_
  refine gfrom [(0, .slice _ _ _), (2, .pointer _), (6, .bool _)] ⟨rfl, rfl, rfl, trivial⟩ fun σ => ?_
  refine gcond (b := _) rfl (fun hc6 => ?_) (fun hc6 => ?_)
  · 
    replace hc6 := of_decide_eq_true hc6
    have hF : rulesF (rls rs) = ⟨2, -1⟩ := by rw [rulesF, if_pos (by simp; omega)]
    refine gseq fun N4 hN4 => ?_
    refine greg ?_
    refine gop (y_build (vs := [(0, _), (1, _)]) (cells := #[_, _]) rfl (bd23_0_1 _ _)) rfl rfl rfl ?_
    refine gop_store 0 (v := .agg #[_, _]) (cs' := #[_, _]) rfl rfl Tryd.sizeOf23 rfl rfl rfl rfl (Nat.le_of_ble_eq_true rfl) rfl rfl ?_
    refine gops_nil ?_
    refine hN4 _ _ ?_
    refine gT [box b2 _] rfl ?_
    refine gfrom [(2, .pointer _)] ⟨rfl, trivial⟩ fun σ => ?_
    refine gret fun w1 hM => ?_
    refine ⟨_, res1 rfl (rc 0 (cs := [_, _]) hM rfl rfl Tryd.isAgg23 Tryd.sizeOf23 rfl), ?_⟩
    exact ⟨by rw [hF], hM.low⟩
  · 
    replace hc6 := of_decide_eq_false hc6
    have hF : rulesF (rls rs) = scan (fun _ r => ruleCode r) (rls rs) := by rw [rulesF, if_neg (by simp; omega)]
    refine gskip ?_
    refine hN2 _ _ ?_
    refine gfrom [(0, .slice _ _ _), (2, .pointer _)] ⟨rfl, rfl, trivial⟩ fun σ => ?_
    refine gseq fun N5 hN5 => ?_
    refine gseq fun N6 hN6 => ?_
    refine greg ?_
    refine gop (y_assign (v := .int _ _) rfl) rfl rfl rfl ?_
    refine gops_nil ?_
    refine hN6 _ _ ?_
    refine gfrom [(0, .slice _ _ _), (2, .pointer _), (3, .int _ _)] ⟨rfl, rfl, rfl, trivial⟩ fun σ => ?_
    refine gblock ?_
    refine gfrom2 [(3, .int _ _)] [(0, .slice _ _ _), (2, .pointer _)] ⟨rfl, trivial⟩ ⟨rfl, rfl, trivial⟩ fun σ => ?_
    refine gloop2 (G := Nat) (fun k => k ≤ rs.length ∧ ∀ j (h : j < rs.length), j < k → ruleCode rs[j].pl = 0) (fun k => rs.length - k) (fun k => [(3, .int .i64 (k : Int))]) (fun k => []) (0) ?h0 ⟨rfl, trivial⟩ ⟨rfl, rfl, trivial⟩ rfl ?round
    case h0 => exact ⟨Nat.zero_le _, fun _ _ h => absurd h (by omega)⟩
    case round =>
      intro k hφ σ
      obtain ⟨hk, hz⟩ := hφ
      refine gseq fun N7 hN7 => ?_
      refine gseq fun N8 hN8 => ?_
      refine greg ?_
      refine gop (y_move (v := .int _ _) rfl) rfl rfl rfl ?_
      refine gop (y_move (v := .slice _ _ _) rfl) rfl rfl rfl ?_
      refine gop (y_len Tryd.underlying29 rfl) rfl rfl rfl ?_
      refine gop (y_lss rfl rfl) rfl rfl rfl ?_
      refine gops_nil ?_
      refine hN8 _ _ ?_
      refine gfrom [(0, .slice _ _ _), (2, .pointer _), (3, .int _ _), (11, .bool _)] ⟨rfl, rfl, rfl, rfl, trivial⟩ fun σ => ?_
      refine gcond (b := _) rfl (fun hc11 => ?_) (fun hc11 => ?_)
      · 
        replace hc11 := of_decide_eq_true hc11
        have hk1 : k < rs.length := by omega
        obtain ⟨ad, rfl, -, hca⟩ := hR.rd.at_ hk1
        refine gskip ?_
        refine hN7 _ _ ?_
        refine gfrom [(0, .slice _ _ _), (2, .pointer _), (3, .int _ _)] ⟨rfl, rfl, rfl, trivial⟩ fun σ => ?_
        refine gseq fun N9 hN9 => ?_
        refine gblock ?_
        refine gseq fun N10 hN10 => ?_
        refine greg ?_
        refine gop (y_move (v := .slice _ _ _) rfl) rfl rfl rfl ?_
        refine gop (y_move (v := .int _ _) rfl) rfl rfl rfl ?_
        refine gop (y_indexAddr (m := k) Tryd.underlying29 Tryd.sizeOf32 rfl rfl (by omega) (by omega) (by omega)) rfl rfl rfl ?_
        refine gop (y_loads (cs := [_, _]) Tryd.isAgg32 Tryd.sizeOf32 rfl rfl (cells_base hca)) rfl rfl rfl ?_
        refine gop_pure (e_call (vs := [.agg #[_, _]]) Tryd.func56 rfl (by kernel_rfl) rfl) (fun w hM => refRuleCode_any w rs[k].pl.pat rs[k].pl.users rs[k].A rs[k].c (RuleR.lasts.base (hR.each _ (List.getElem_mem hk1)) hM)) rfl rfl rfl ?_
        refine gop (y_neq rfl rfl) rfl rfl rfl ?_
        refine gops_nil ?_
        refine hN10 _ _ ?_
        refine gfrom [(0, .slice _ _ _), (2, .pointer _), (3, .int _ _), (19, .bool _)] ⟨rfl, rfl, rfl, rfl, trivial⟩ fun σ => ?_
        refine gcond (b := _) rfl (fun hc19 => ?_) (fun hc19 => ?_)
        · 
          replace hc19 := of_decide_eq_true hc19
          refine gseq fun N11 hN11 => ?_
          refine greg ?_
          refine gop (y_move (v := .slice _ _ _) rfl) rfl rfl rfl ?_
          refine gop (y_move (v := .int _ _) rfl) rfl rfl rfl ?_
          refine gop (y_indexAddr (m := k) Tryd.underlying29 Tryd.sizeOf32 rfl rfl (by omega) (by omega) (by omega)) rfl rfl rfl ?_
          refine gop (y_loads (cs := [_, _]) Tryd.isAgg32 Tryd.sizeOf32 rfl rfl (cells_base hca)) rfl rfl rfl ?_
          refine gop_pure (e_call (vs := [.agg #[_, _]]) Tryd.func56 rfl (by kernel_rfl) rfl) (fun w hM => refRuleCode_any w rs[k].pl.pat rs[k].pl.users rs[k].A rs[k].c (RuleR.lasts.base (hR.each _ (List.getElem_mem hk1)) hM)) rfl rfl rfl ?_
          refine gop (y_move (v := .int _ _) rfl) rfl rfl rfl ?_
          refine gop (y_build (vs := [(0, .int _ _), (1, .int _ _)]) (cells := #[_, _]) rfl (bd23_0_1 _ _)) rfl rfl rfl ?_
          refine gop_store 0 (v := .agg #[_, _]) (cs' := #[_, _]) rfl rfl Tryd.sizeOf23 rfl rfl rfl rfl (Nat.le_of_ble_eq_true rfl) rfl rfl ?_
          refine gops_nil ?_
          refine hN11 _ _ ?_
          refine gT [box b2 _] rfl ?_
          refine gfrom [(2, .pointer _)] ⟨rfl, trivial⟩ fun σ => ?_
          refine gret fun w1 hM => ?_
          refine ⟨_, res1 rfl (rc 0 (cs := [_, _]) hM rfl rfl Tryd.isAgg23 Tryd.sizeOf23 rfl), ?_⟩
          have hs := scan_at (f := fun _ r => ruleCode r) (l := rls rs) (k := k) (by simpa using hk1) (fun j h hj => by simpa using hz j (by simpa using h) hj) (by simpa using hc19)
          exact ⟨by rw [hF, hs]; simp, hM.low⟩
        · 
          replace hc19 := Decidable.not_not.1 (of_decide_eq_false hc19)
          refine gskip ?_
          refine hN9 _ _ ?_
          refine gfrom [(0, .slice _ _ _), (2, .pointer _), (3, .int _ _)] ⟨rfl, rfl, rfl, trivial⟩ fun σ => ?_
          refine greg ?_
          refine gop (y_move (v := .int _ _) rfl) rfl rfl rfl ?_
          refine gop (y_add rfl rfl ⟨by omega, by omega⟩) rfl rfl rfl ?_
          refine gop (y_assign (v := .int _ _) rfl) rfl rfl rfl ?_
          refine gops_nil ?_
          refine gnext2 (k + 1) (by omega) (⟨by omega, fun j h hj => by rcases Nat.lt_succ_iff_lt_or_eq.1 hj with h1 | rfl; exact hz j h h1; exact hc19⟩) ⟨rfl, trivial⟩ ⟨rfl, rfl, trivial⟩ ⟨_, rfl⟩
      · 
        replace hc11 := of_decide_eq_false hc11
        have hF2 : rulesF (rls rs) = ⟨0, 0⟩ := by rw [hF]; exact scan_ok fun j hj => by simpa using hz j (by simpa using hj) (by simp at hj; omega)
        refine gexit ?_
        refine hN5 _ _ ?_
        refine gfrom [(2, .pointer _)] ⟨rfl, trivial⟩ fun σ => ?_
        refine gseq fun N12 hN12 => ?_
        refine greg ?_
        refine gop (y_build (vs := []) (cells := #[.int .i64 0, .int .i64 0]) rfl bd23_) rfl rfl rfl ?_
        refine gop_store 0 (v := .agg #[_, _]) (cs' := #[_, _]) rfl rfl Tryd.sizeOf23 rfl rfl rfl rfl (Nat.le_of_ble_eq_true rfl) rfl rfl ?_
        refine gops_nil ?_
        refine hN12 _ _ ?_
        refine gT [box b2 _] rfl ?_
        refine gfrom [(2, .pointer _)] ⟨rfl, trivial⟩ fun σ => ?_
        refine gret fun w1 hM => ?_
        refine ⟨_, res1 rfl (rc 0 (cs := [_, _]) hM rfl rfl Tryd.isAgg23 Tryd.sizeOf23 rfl), ?_⟩
        exact ⟨by rw [hF2], hM.low⟩
set_option maxHeartbeats 2000000 in
theorem refOwners_any (w : World) (A : Option Addr) (c : Nat) (rs : List RuleC) (hR : RulesR w 0 A c rs) (path : ByteArray) (hps : ∀ a ∈ rs, a.pl.pat.size ≤ 4000000) (hs : path.size ≤ 4000000) : Calls Tryd.prog 33 #[.slice A rs.length c, .string path] w fun e w' => e = .returned (ownV rs path) ∧ Below w.heap.size w w' := by
  have hln := hR.sb.len
  have hmx := hR.sb.max
  unfold maxLen at hmx
  refine gcalls Tryd.func33 rfl Tryd.ntmps33 (Nat.le_of_ble_eq_true rfl) ?_
  refine gfrom [(0, .slice _ _ _), (1, .string _)] ⟨rfl, rfl, trivial⟩ fun σ => ?_
  refine gseq fun N1 hN1 => ?_
  refine greg ?_
  refine gop (y_assign (v := .slice _ _ _) rfl) rfl rfl rfl ?_
  refine gops_nil ?_
  refine hN1 _ _ ?_
  refine gfrom [(0, .slice _ _ _), (1, .string _)] ⟨rfl, rfl, trivial⟩ fun σ => ?_
  refine gseq fun N2 hN2 => ?_
  refine greg ?_
  refine gop (y_assign (v := .slice _ _ _) rfl) rfl rfl rfl ?_
  refine gops_nil ?_
  refine hN2 _ _ ?_
  refine gfrom [(0, .slice _ _ _), (1, .string _), (5, .slice _ _ _)] ⟨rfl, rfl, rfl, trivial⟩ fun σ => ?_
  refine gseq fun N3 hN3 => ?_
  refine gseq fun N4 hN4 => ?_
  refine greg ?_
  refine gop (y_assign (v := .int _ _) rfl) rfl rfl rfl ?_
  refine gops_nil ?_
  refine hN4 _ _ ?_
  refine gfrom [(0, .slice _ _ _), (1, .string _), (5, .slice _ _ _), (6, .int _ _)] ⟨rfl, rfl, rfl, rfl, trivial⟩ fun σ => ?_
  refine gblock ?_
  refine gfrom2 [(5, .slice _ _ _), (6, .int _ _)] [(0, .slice _ _ _), (1, .string _)] ⟨rfl, rfl, trivial⟩ ⟨rfl, rfl, trivial⟩ fun σ => ?_
  refine gloop2 (G := Nat × Option Addr × Nat × Nat) (fun (k, B, n, d) => k ≤ rs.length ∧ ownV (rs.take k) path = .slice B n d) (fun (k, B, n, d) => rs.length - k) (fun (k, B, n, d) => [(5, .slice B n d), (6, .int .i64 (k : Int))]) (fun (k, B, n, d) => []) ((0, none, 0, 0)) ?h0 ⟨rfl, rfl, trivial⟩ ⟨rfl, rfl, trivial⟩ rfl ?round
  case h0 => exact ⟨Nat.zero_le _, rfl⟩
  case round =>
    rintro ⟨k, B, n, d⟩ hφ σ
    obtain ⟨hk, hv⟩ := hφ
    refine gseq fun N5 hN5 => ?_
    refine gseq fun N6 hN6 => ?_
    refine greg ?_
    refine gop (y_move (v := .int _ _) rfl) rfl rfl rfl ?_
    refine gop (y_move (v := .slice _ _ _) rfl) rfl rfl rfl ?_
    refine gop (y_len Tryd.underlying29 rfl) rfl rfl rfl ?_
    refine gop (y_lss rfl rfl) rfl rfl rfl ?_
    refine gops_nil ?_
    refine hN6 _ _ ?_
    refine gfrom [(0, .slice _ _ _), (1, .string _), (5, .slice B n d), (6, .int _ _), (10, .bool _)] ⟨rfl, rfl, rfl, rfl, rfl, trivial⟩ fun σ => ?_
    refine gcond (b := _) rfl (fun hc10 => ?_) (fun hc10 => ?_)
    · 
      replace hc10 := of_decide_eq_true hc10
      have hk1 : k < rs.length := by omega
      obtain ⟨ad, rfl, -, hca⟩ := hR.rd.at_ hk1
      refine gskip ?_
      refine hN5 _ _ ?_
      refine gfrom [(0, .slice _ _ _), (1, .string _), (5, .slice B n d), (6, .int _ _)] ⟨rfl, rfl, rfl, rfl, trivial⟩ fun σ => ?_
      refine gseq fun N7 hN7 => ?_
      refine gblock ?_
      refine gseq fun N8 hN8 => ?_
      refine greg ?_
      refine gop (y_move (v := .slice _ _ _) rfl) rfl rfl rfl ?_
      refine gop (y_move (v := .int _ _) rfl) rfl rfl rfl ?_
      refine gop (y_indexAddr (m := k) Tryd.underlying29 Tryd.sizeOf32 rfl rfl (by omega) (by omega) (by omega)) rfl rfl rfl ?_
      refine gop (y_fieldAddr_add fa32_0 rfl) rfl rfl rfl ?_
      refine gop (y_load Tryd.isAgg9 rfl (cell_base (hca 0 _ rfl))) rfl rfl rfl ?_
      refine gop (y_move (v := .string _) rfl) rfl rfl rfl ?_
      refine gop_pure (e_call (vs := [.string _, .string _]) Tryd.func40 rfl (by kernel_rfl) rfl) (fun w hM => refMatches_any w _ _ (hps _ (List.getElem_mem hk1)) hs) rfl rfl rfl ?_
      refine gops_nil ?_
      refine hN8 _ _ ?_
      refine gfrom [(0, .slice _ _ _), (1, .string _), (5, .slice B n d), (6, .int _ _), (19, .bool _)] ⟨rfl, rfl, rfl, rfl, rfl, trivial⟩ fun σ => ?_
      refine gcond (b := _) rfl (fun hc19 => ?_) (fun hc19 => ?_)
      · 
        have hm : matchR path rs[k].pl = true := hc19
        refine greg ?_
        refine gop (y_move (v := .slice _ _ _) rfl) rfl rfl rfl ?_
        refine gop (y_move (v := .int _ _) rfl) rfl rfl rfl ?_
        refine gop (y_indexAddr (m := k) Tryd.underlying29 Tryd.sizeOf32 rfl rfl (by omega) (by omega) (by omega)) rfl rfl rfl ?_
        refine gop (y_fieldAddr_add fa32_1 rfl) rfl rfl rfl ?_
        refine gop (y_load Tryd.isAgg30 rfl (cell_base (hca 1 _ rfl))) rfl rfl rfl ?_
        refine gop (y_assign (v := .slice _ _ _) rfl) rfl rfl rfl ?_
        refine gops_nil ?_
        refine hN7 _ _ ?_
        refine gfrom [(0, .slice _ _ _), (1, .string _), (5, .slice _ _ _), (6, .int _ _)] ⟨rfl, rfl, rfl, rfl, trivial⟩ fun σ => ?_
        refine greg ?_
        refine gop (y_move (v := .int _ _) rfl) rfl rfl rfl ?_
        refine gop (y_add rfl rfl ⟨by omega, by omega⟩) rfl rfl rfl ?_
        refine gop (y_assign (v := .int _ _) rfl) rfl rfl rfl ?_
        refine gops_nil ?_
        refine gnext2 ((k + 1, rs[k].A, rs[k].pl.users.length, rs[k].c)) (by show rs.length - (k + 1) < rs.length - k; omega) (⟨by show k + 1 ≤ _; omega, by rw [ownV_next hk1, hm]; rfl⟩) ⟨rfl, rfl, trivial⟩ ⟨rfl, rfl, trivial⟩ ⟨_, rfl⟩
      · 
        have hm : matchR path rs[k].pl = false := hc19
        refine gskip ?_
        refine hN7 _ _ ?_
        refine gfrom [(0, .slice _ _ _), (1, .string _), (5, .slice B n d), (6, .int _ _)] ⟨rfl, rfl, rfl, rfl, trivial⟩ fun σ => ?_
        refine greg ?_
        refine gop (y_move (v := .int _ _) rfl) rfl rfl rfl ?_
        refine gop (y_add rfl rfl ⟨by omega, by omega⟩) rfl rfl rfl ?_
        refine gop (y_assign (v := .int _ _) rfl) rfl rfl rfl ?_
        refine gops_nil ?_
        refine gnext2 ((k + 1, B, n, d)) (by show rs.length - (k + 1) < rs.length - k; omega) (⟨by show k + 1 ≤ _; omega, by rw [ownV_next hk1, hm]; exact hv⟩) ⟨rfl, rfl, trivial⟩ ⟨rfl, rfl, trivial⟩ ⟨_, rfl⟩
    · 
      replace hc10 := of_decide_eq_false hc10
      refine gexit ?_
      refine hN3 _ _ ?_
      refine gfrom [(5, .slice B n d)] ⟨rfl, trivial⟩ fun σ => ?_
      refine gseq fun N9 hN9 => ?_
      refine greg ?_
      refine gop (y_move (v := .slice B n d) rfl) rfl rfl rfl ?_
      refine gop (y_assign (v := .slice B n d) rfl) rfl rfl rfl ?_
      refine gops_nil ?_
      refine hN9 _ _ ?_
      refine gfrom [(4, .slice B n d)] ⟨rfl, trivial⟩ fun σ => ?_
      refine gret fun w1 hM => ?_
      refine ⟨_, res1 rfl (rt (v := .slice B n d) rfl), ?_⟩
      exact ⟨by rw [← hv, List.take_of_length_le (show rs.length ≤ k by omega)], hM.low⟩
set_option maxHeartbeats 2000000 in
theorem refLine_any (w : World) (pat : ByteArray) (us : List Int) (A : Option Addr) (c : Nat) (hR : RuleR w 0 ⟨⟨pat, us⟩, A, c⟩) (hps : pat.size ≤ 60) (hlu : us.length ≤ 4) (hu7 : ∀ u ∈ us, 0 ≤ u ∧ u ≤ 7) : Calls Tryd.prog 32 #[.agg #[.string pat, .slice A us.length c]] w fun e w' => e = .returned (.string (ruleLine ⟨pat, us⟩)) ∧ Below w.heap.size w w' := by
  have hrd : Rdl w 0 1 intCells A us := hR.rd
  refine gcalls Tryd.func32 rfl Tryd.ntmps32 (Nat.le_of_ble_eq_true rfl) ?_
  refine gfrom [(0, .agg #[_, _])] ⟨rfl, trivial⟩ fun σ => ?_
  refine gseq fun N1 hN1 => ?_
  refine greg ?_
  refine gop_box (v := .agg #[_, _]) (cs := #[_, _]) rfl rfl rfl (fun b1 hb1 => ?_)
  refine gop (y_assign (v := .string _) rfl) rfl rfl rfl ?_
  refine gops_nil ?_
  refine hN1 _ _ ?_
  refine gT [box b1 _] rfl ?_
  refine gfrom [(1, .pointer _)] ⟨rfl, trivial⟩ fun σ => ?_
  refine gseq fun N2 hN2 => ?_
  refine greg ?_
  refine gop (y_fieldAddr_box fa32_0 rfl) rfl rfl rfl ?_
  refine gop (y_load Tryd.isAgg9 rfl (cell_box 0 rfl rfl)) rfl rfl rfl ?_
  refine gop (y_assign (v := .string _) rfl) rfl rfl rfl ?_
  refine gops_nil ?_
  refine hN2 _ _ ?_
  refine gfrom [(1, .pointer _), (3, .string _)] ⟨rfl, rfl, trivial⟩ fun σ => ?_
  refine gseq fun N3 hN3 => ?_
  refine gseq fun N4 hN4 => ?_
  refine greg ?_
  refine gop (y_assign (v := .int _ _) rfl) rfl rfl rfl ?_
  refine gops_nil ?_
  refine hN4 _ _ ?_
  refine gfrom [(1, .pointer _), (3, .string _), (4, .int _ _)] ⟨rfl, rfl, rfl, trivial⟩ fun σ => ?_
  refine gblock ?_
  refine gfrom2 [(3, .string _), (4, .int _ _)] [(1, .pointer _)] ⟨rfl, rfl, trivial⟩ ⟨rfl, trivial⟩ fun σ => ?_
  refine gloop2 (G := Nat) (fun k => k ≤ us.length) (fun k => us.length - k) (fun k => [(3, .string (lineTo pat (us.take k))), (4, .int .i64 (k : Int))]) (fun k => []) (0) ?h0 ⟨rfl, rfl, trivial⟩ ⟨rfl, trivial⟩ rfl ?round
  case h0 => exact Nat.zero_le _
  case round =>
    intro k hφ σ
    have hk : k ≤ us.length := hφ
    refine gseq fun N5 hN5 => ?_
    refine gseq fun N6 hN6 => ?_
    refine greg ?_
    refine gop (y_move (v := .int _ _) rfl) rfl rfl rfl ?_
    refine gop (y_fieldAddr_box fa32_1 rfl) rfl rfl rfl ?_
    refine gop (y_load Tryd.isAgg30 rfl (cell_box 0 rfl rfl)) rfl rfl rfl ?_
    refine gop (y_len Tryd.underlying30 rfl) rfl rfl rfl ?_
    refine gop (y_lss rfl rfl) rfl rfl rfl ?_
    refine gops_nil ?_
    refine hN6 _ _ ?_
    refine gfrom [(1, .pointer _), (3, .string _), (4, .int _ _), (11, .bool _)] ⟨rfl, rfl, rfl, rfl, trivial⟩ fun σ => ?_
    refine gcond (b := _) rfl (fun hc11 => ?_) (fun hc11 => ?_)
    · 
      replace hc11 := of_decide_eq_true hc11
      have hk1 : k < us.length := by omega
      obtain ⟨ad, rfl, -, hca⟩ := hrd.at_ hk1
      have hu8 := hu7 _ (List.getElem_mem hk1)
      refine gskip ?_
      refine hN5 _ _ ?_
      refine gfrom [(1, .pointer _), (3, .string _), (4, .int _ _)] ⟨rfl, rfl, rfl, trivial⟩ fun σ => ?_
      refine gseq fun N7 hN7 => ?_
      refine gblock ?_
      refine greg_q (by kernel_rfl) (by kernel_rfl) ?_
      refine gq (y_move (v := .string _) rfl) rfl rfl rfl ?_
      refine gq (y_cat rfl rfl (by rw [lineTo_size, List.length_take]; show pat.size + 2 * min k us.length + 1 ≤ _; omega)) rfl rfl rfl ?_
      refine gq (y_fieldAddr_box fa32_1 rfl) rfl rfl rfl ?_
      refine gq (y_load Tryd.isAgg30 rfl (cell_box 0 rfl rfl)) rfl rfl rfl ?_
      refine gq (y_move (v := .int _ _) rfl) rfl rfl rfl ?_
      refine gq (y_indexAddr (m := k) Tryd.underlying30 Tryd.sizeOf3 rfl rfl (by omega) (by omega) (by omega)) rfl rfl rfl ?_
      refine gq (y_load Tryd.isAgg3 rfl (cell_base (hca 0 _ rfl))) rfl rfl rfl ?_
      refine gq (y_fieldAddr_box fa32_1 rfl) rfl rfl rfl ?_
      refine gq (y_load Tryd.isAgg30 rfl (cell_box 0 rfl rfl)) rfl rfl rfl ?_
      refine gq (y_move (v := .int _ _) rfl) rfl rfl rfl ?_
      refine gq (y_indexAddr (m := k) Tryd.underlying30 Tryd.sizeOf3 rfl rfl (by omega) (by omega) (by omega)) rfl rfl rfl ?_
      refine gq (y_load Tryd.isAgg3 rfl (cell_base (hca 0 _ rfl))) rfl rfl rfl ?_
      refine gq (y_add rfl rfl ⟨by omega, by omega⟩) rfl rfl rfl ?_
      refine gq (y_strslice Tryd.underlying9 rfl rfl rfl (by omega) (by omega) (by show us[k] + 1 ≤ ((8 : Nat) : Int); omega)) rfl rfl rfl ?_
      refine gq (y_cat rfl rfl (by rw [dig_ext hu8.1 hu8.2, ByteArray.size_append, lineTo_size, List.length_take]; show pat.size + 2 * min k us.length + 1 + 1 ≤ _; omega)) rfl rfl rfl ?_
      refine gq (y_assign (v := .string _) rfl) rfl rfl rfl ?_
      refine gqs_nil ?_
      refine hN7 _ _ ?_
      refine gfrom [(1, .pointer _), (3, .string _), (4, .int _ _)] ⟨rfl, rfl, rfl, trivial⟩ fun σ => ?_
      refine greg ?_
      refine gop (y_move (v := .int _ _) rfl) rfl rfl rfl ?_
      refine gop (y_add rfl rfl ⟨by omega, by omega⟩) rfl rfl rfl ?_
      refine gop (y_assign (v := .int _ _) rfl) rfl rfl rfl ?_
      refine gops_nil ?_
      refine gnext2 (k + 1) (by omega) (show k + 1 ≤ _ by omega) ⟨congrArg Value.string (line_ext hk1 hu8.1 hu8.2), rfl, trivial⟩ ⟨rfl, trivial⟩ ⟨_, rfl⟩
    · 
      replace hc11 := of_decide_eq_false hc11
      have hE : lineTo pat (us.take k) = ruleLine ⟨pat, us⟩ := by rw [List.take_of_length_le (by omega)]; rfl
      refine gexit ?_
      refine hN3 _ _ ?_
      refine gfrom [(3, .string _)] ⟨rfl, trivial⟩ fun σ => ?_
      refine gseq fun N8 hN8 => ?_
      refine greg ?_
      refine gop (y_move (v := .string _) rfl) rfl rfl rfl ?_
      refine gop (y_assign (v := .string _) rfl) rfl rfl rfl ?_
      refine gops_nil ?_
      refine hN8 _ _ ?_
      refine gfrom [(2, .string _)] ⟨rfl, trivial⟩ fun σ => ?_
      refine gret fun w1 hM => ?_
      refine ⟨_, res1 rfl (rt (v := .string _) rfl), ?_⟩
      exact ⟨by rw [hE], hM.low⟩
end Go.Proofs.YtijpaljdclhehaaDoor
namespace Go.Proofs.YtijpaljdclhehaaDoor
open Go.RowKit Go.Cf
set_option maxRecDepth 10000
set_option maxHeartbeats 4000000 in
theorem readRule_any (w : World) (s : ByteArray) (hs : s.size ≤ 4000000) :
    Calls Tryd.prog 30 #[.string s] w fun e w' => ∃ A c r T', e = .returned (.tuple #[.agg #[.string r.pat, .slice A r.users.length c], .int .i64 (lineC s)]) ∧ (lineC s = 0 → r = lineR s) ∧ r.users.length ≤ s.size ∧ T' = [rowl intCells w.heap.size 3 1 (.slice A r.users.length c) (r.users)] ∧ Mem w T' w' := by
  refine gcalls Tryd.func30 rfl Tryd.ntmps30 (Nat.le_of_ble_eq_true rfl) ?_
  refine gfrom [(0, .string _)] ⟨rfl, trivial⟩ fun σ => ?_
  refine gseq fun N1 hN1 => ?_
  refine greg ?_
  refine gop_alloc (cs := #[.string .empty, .slice none 0 0]) Tryd.zeroValue32 rfl rfl (fun b2 hb2 => ?_)
  refine gop (y_assign (v := .int _ _) rfl) rfl rfl rfl ?_
  refine gops_nil ?_
  refine hN1 _ _ ?_
  refine gT [box b2 _] rfl ?_
  refine gfrom [(0, .string _), (2, .pointer _)] ⟨rfl, rfl, trivial⟩ fun σ => ?_
  refine gseq fun N2 hN2 => ?_
  refine greg ?_
  refine gop (y_assign (v := .int _ _) rfl) rfl rfl rfl ?_
  refine gops_nil ?_
  refine hN2 _ _ ?_
  refine gfrom [(0, .string _), (2, .pointer _), (4, .int _ _)] ⟨rfl, rfl, rfl, trivial⟩ fun σ => ?_
  refine gseq fun N3 hN3 => ?_
  refine gfrom [(0, .string _), (2, .pointer _), (4, .int _ _)] ⟨rfl, rfl, rfl, trivial⟩ fun σ => ?_
  refine gcut3 (Lf := [(0, .string _), (2, .pointer _)]) (G := Nat) (fun n => n ≤ s.size ∧ (∀ j, j < n → byteAt s j ≠ 32) ∧ (n < s.size → byteAt s n = 32)) (fun n => [(4, .int .i64 (n : Int))]) (fun n => []) ⟨rfl, rfl, trivial⟩ ?_ ?_
  ·
    refine gblock ?_
    refine gfrom2 [(4, .int _ _)] [(0, .string _), (2, .pointer _)] ⟨rfl, trivial⟩ ⟨rfl, rfl, trivial⟩ fun σ => ?_
    refine gloop2 (G := Nat) (fun k => k ≤ s.size ∧ ∀ j, j < k → byteAt s j ≠ 32) (fun k => s.size - k) (fun k => [(4, .int .i64 (k : Int))]) (fun k => []) (0) ?h0 ⟨rfl, trivial⟩ ⟨rfl, rfl, trivial⟩ rfl ?round
    case h0 => exact ⟨Nat.zero_le _, fun _ h => absurd h (by omega)⟩
    case round =>
      intro k hφ σ
      obtain ⟨hk, hz⟩ := hφ
      refine gseq fun N4 hN4 => ?_
      refine gseq fun N5 hN5 => ?_
      refine greg ?_
      refine gop (y_move (v := .int _ _) rfl) rfl rfl rfl ?_
      refine gop (y_move (v := .string _) rfl) rfl rfl rfl ?_
      refine gop (y_lens Tryd.underlying9 rfl) rfl rfl rfl ?_
      refine gop (y_lss rfl rfl) rfl rfl rfl ?_
      refine gop (y_move (v := .bool _) rfl) rfl rfl rfl ?_
      refine gop_if (want := true) rfl rfl rfl rfl rfl rfl (fun hg11 => ?_) (fun hg11 => ?_)
      · 
        have hg11d := of_decide_eq_true hg11
        refine gop (y_bare (y_move (v := .string _) rfl)) rfl rfl rfl ?_
        refine gop_on rfl rfl rfl rfl hg11 ?_
        refine gop (y_bare (y_move (v := .int _ _) rfl)) rfl rfl rfl ?_
        refine gop_on rfl rfl rfl rfl hg11 ?_
        refine gop (y_bare (y_stridx (m := k) Tryd.underlying9 rfl rfl (by omega) (by omega) (by omega))) rfl rfl rfl ?_
        refine gop_on rfl rfl rfl rfl hg11 ?_
        refine gop (y_bare (y_neq rfl rfl)) rfl rfl rfl ?_
        refine gop (y_pick_t (v := .bool _) rfl hg11 rfl) rfl rfl rfl ?_
        refine gops_nil ?_
        refine hN5 _ _ ?_
        refine gfrom [(0, .string _), (2, .pointer _), (4, .int _ _), (16, .bool _)] ⟨rfl, rfl, rfl, rfl, trivial⟩ fun σ => ?_
        refine gcond (b := _) rfl (fun hc16 => ?_) (fun hc16 => ?_)
        · 
          replace hc16 := of_decide_eq_true hc16
          refine gskip ?_
          refine hN4 _ _ ?_
          refine gfrom [(0, .string _), (2, .pointer _), (4, .int _ _)] ⟨rfl, rfl, rfl, trivial⟩ fun σ => ?_
          refine gblock ?_
          refine greg ?_
          refine gop (y_move (v := .int _ _) rfl) rfl rfl rfl ?_
          refine gop (y_add rfl rfl ⟨by omega, by omega⟩) rfl rfl rfl ?_
          refine gop (y_assign (v := .int _ _) rfl) rfl rfl rfl ?_
          refine gops_nil ?_
          refine gnext2 (k + 1) (by omega) (⟨by omega, fun j hj => by rcases Nat.lt_succ_iff_lt_or_eq.1 hj with h1 | rfl; exact hz j h1; omega⟩) ⟨rfl, trivial⟩ ⟨rfl, rfl, trivial⟩ ⟨_, rfl⟩
        · 
          replace hc16 := Decidable.not_not.1 (of_decide_eq_false hc16)
          refine gexit ?_
          refine gcut3_end (k) (⟨hk, hz, fun h => by omega⟩) ⟨rfl, trivial⟩ ⟨rfl, rfl, trivial⟩ ⟨_, rfl⟩
      · 
        have hg11d := of_decide_eq_false hg11
        refine gop_off rfl rfl rfl rfl hg11 rfl rfl ?_
        refine gop_off rfl rfl rfl rfl hg11 rfl rfl ?_
        refine gop_off rfl rfl rfl rfl hg11 rfl rfl ?_
        refine gop (y_pick_f (v := .bool _) rfl hg11 rfl) rfl rfl rfl ?_
        refine gops_nil ?_
        refine hN5 _ _ ?_
        refine gfrom [(0, .string _), (2, .pointer _), (4, .int _ _), (16, .bool _)] ⟨rfl, rfl, rfl, rfl, trivial⟩ fun σ => ?_
        refine gcond (b := _) rfl (fun hc16 => ?_) (fun hc16 => ?_)
        · 
          cases hc16
        · 
          refine gexit ?_
          refine gcut3_end (k) (⟨hk, hz, fun h => by omega⟩) ⟨rfl, trivial⟩ ⟨rfl, rfl, trivial⟩ ⟨_, rfl⟩
  ·
    intro n hcut σ
    refine hN3 _ _ ?_
    obtain ⟨hn, hnb, hne⟩ := hcut
    refine gseq fun N6 hN6 => ?_
    refine greg ?_
    refine gop (y_move (v := .string _) rfl) rfl rfl rfl ?_
    refine gop (y_move (v := .int _ _) rfl) rfl rfl rfl ?_
    refine gop (y_strslice_hi Tryd.underlying9 rfl rfl (by omega) (by omega)) rfl rfl rfl ?_
    refine gop (y_build (vs := [(0, .string _)]) (cells := #[_, .slice none 0 0]) rfl (bd32_0 _)) rfl rfl rfl ?_
    refine gop_alloc (cs := #[.string .empty, .slice none 0 0]) Tryd.zeroValue32 rfl rfl (fun b5 hb5 => ?_)
    refine gop_store 1 (v := .agg #[_, _]) (cs' := #[_, _]) rfl rfl Tryd.sizeOf32 rfl rfl rfl rfl (Nat.le_of_ble_eq_true rfl) rfl rfl ?_
    refine gops_nil ?_
    refine hN6 _ _ ?_
    refine gT [box b2 _, box b5 _] rfl ?_
    refine gfrom [(0, .string _), (2, .pointer _), (4, .int _ _), (5, .pointer _)] ⟨rfl, rfl, rfl, rfl, trivial⟩ fun σ => ?_
    refine gseq fun N7 hN7 => ?_
    refine gseq fun N8 hN8 => ?_
    refine greg ?_
    refine gop (y_move (v := .int _ _) rfl) rfl rfl rfl ?_
    refine gop (y_assign (v := .int _ _) rfl) rfl rfl rfl ?_
    refine gops_nil ?_
    refine hN8 _ _ ?_
    refine gfrom [(0, .string _), (2, .pointer _), (5, .pointer _), (6, .int _ _)] ⟨rfl, rfl, rfl, rfl, trivial⟩ fun σ => ?_
    refine gblock ?_
    refine gnilrow intCells 3 1 ?_
    refine gfrom2 [(6, .int _ _)] [(0, .string _), (2, .pointer _), (5, .pointer _)] ⟨rfl, trivial⟩ ⟨rfl, rfl, rfl, trivial⟩ fun σ => ?_
    refine gloop2 (G := Nat × Option Addr × Nat × List Int) (fun (i, Av, cv, us) => n ≤ i ∧ i ≤ s.size + 1 ∧ us.length ≤ i ∧ us.length ≤ s.size ∧ ReadIn s n i us) (fun (i, Av, cv, us) => s.size + 1 - i) (fun (i, Av, cv, us) => [(6, .int .i64 (i : Int))]) (fun (i, Av, cv, us) => [(1, box b5 (.cells #[.string (s.extract 0 (n : Int).toNat), .slice Av us.length cv] 32)), (2, rowl intCells w.heap.size 3 1 (.slice Av us.length cv) (us))]) ((n, none, 0, [])) ?h0 ⟨rfl, trivial⟩ ⟨rfl, rfl, rfl, trivial⟩ rfl ?round
    case h0 => exact ⟨Nat.le_refl _, by show n ≤ _; omega, Nat.zero_le _, Nat.zero_le _, ReadIn.zero s n⟩
    case round =>
      rintro ⟨i, Av, cv, us⟩ hφ σ
      obtain ⟨hni, hi, hul, hus, hRI⟩ := hφ
      refine gT [box b2 _, box b5 _, rowl _ _ _ _ _ _] rfl ?_
      refine gseq fun N9 hN9 => ?_
      refine gseq fun N10 hN10 => ?_
      refine greg ?_
      refine gop (y_move (v := .int _ _) rfl) rfl rfl rfl ?_
      refine gop (y_move (v := .string _) rfl) rfl rfl rfl ?_
      refine gop (y_lens Tryd.underlying9 rfl) rfl rfl rfl ?_
      refine gop (y_lss rfl rfl) rfl rfl rfl ?_
      refine gops_nil ?_
      refine hN10 _ _ ?_
      refine gfrom [(0, .string _), (2, .pointer _), (5, .pointer _), (6, .int _ _), (27, .bool _)] ⟨rfl, rfl, rfl, rfl, rfl, trivial⟩ fun σ => ?_
      refine gcond (b := _) rfl (fun hc27 => ?_) (fun hc27 => ?_)
      · 
        replace hc27 := of_decide_eq_true hc27
        refine gskip ?_
        refine hN9 _ _ ?_
        refine gfrom [(0, .string _), (2, .pointer _), (5, .pointer _), (6, .int _ _)] ⟨rfl, rfl, rfl, rfl, trivial⟩ fun σ => ?_
        refine gseq fun N11 hN11 => ?_
        refine gblock ?_
        refine gseq fun N12 hN12 => ?_
        refine gseq fun N13 hN13 => ?_
        refine greg ?_
        refine gop (y_move (v := .string _) rfl) rfl rfl rfl ?_
        refine gop (y_move (v := .int _ _) rfl) rfl rfl rfl ?_
        refine gop (y_stridx (m := i) Tryd.underlying9 rfl rfl (by omega) (by omega) (by omega)) rfl rfl rfl ?_
        refine gop (y_neq rfl rfl) rfl rfl rfl ?_
        refine gop (y_move (v := .bool _) rfl) rfl rfl rfl ?_
        refine gop_if (want := false) rfl rfl rfl rfl rfl rfl (fun hg34 => ?_) (fun hg34 => ?_)
        · 
          have hg34d := Decidable.not_not.1 (of_decide_eq_false hg34)
          refine gop (y_bare (y_move (v := .int _ _) rfl)) rfl rfl rfl ?_
          refine gop_on rfl rfl rfl rfl hg34 ?_
          refine gop (y_bare (y_add rfl rfl ⟨by omega, by omega⟩)) rfl rfl rfl ?_
          refine gop_on rfl rfl rfl rfl hg34 ?_
          refine gop (y_bare (y_move (v := .string _) rfl)) rfl rfl rfl ?_
          refine gop_on rfl rfl rfl rfl hg34 ?_
          refine gop (y_bare (y_lens Tryd.underlying9 rfl)) rfl rfl rfl ?_
          refine gop_on rfl rfl rfl rfl hg34 ?_
          refine gop (y_bare (y_geq rfl rfl)) rfl rfl rfl ?_
          refine gop (y_pick_f (v := .bool _) rfl hg34 rfl) rfl rfl rfl ?_
          refine gop (y_move (v := .bool _) rfl) rfl rfl rfl ?_
          refine gop_if (want := false) rfl rfl rfl rfl rfl rfl (fun hg41 => ?_) (fun hg41 => ?_)
          · 
            have hg41d := of_decide_eq_false hg41
            refine gop (y_bare (y_move (v := .string _) rfl)) rfl rfl rfl ?_
            refine gop_on rfl rfl rfl rfl hg41 ?_
            refine gop (y_bare (y_move (v := .int _ _) rfl)) rfl rfl rfl ?_
            refine gop_on rfl rfl rfl rfl hg41 ?_
            refine gop (y_bare (y_add rfl rfl ⟨by omega, by omega⟩)) rfl rfl rfl ?_
            refine gop_on rfl rfl rfl rfl hg41 ?_
            refine gop (y_bare (y_stridx (m := i + 1) Tryd.underlying9 rfl rfl (by omega) (by omega) (by omega))) rfl rfl rfl ?_
            refine gop_on rfl rfl rfl rfl hg41 ?_
            refine gop (y_bare (y_lss rfl rfl)) rfl rfl rfl ?_
            refine gop (y_pick_f (v := .bool _) rfl hg41 rfl) rfl rfl rfl ?_
            refine gop (y_move (v := .bool _) rfl) rfl rfl rfl ?_
            refine gop_if (want := false) rfl rfl rfl rfl rfl rfl (fun hg48 => ?_) (fun hg48 => ?_)
            · 
              have hg48d := of_decide_eq_false hg48
              refine gop (y_bare (y_move (v := .string _) rfl)) rfl rfl rfl ?_
              refine gop_on rfl rfl rfl rfl hg48 ?_
              refine gop (y_bare (y_move (v := .int _ _) rfl)) rfl rfl rfl ?_
              refine gop_on rfl rfl rfl rfl hg48 ?_
              refine gop (y_bare (y_add rfl rfl ⟨by omega, by omega⟩)) rfl rfl rfl ?_
              refine gop_on rfl rfl rfl rfl hg48 ?_
              refine gop (y_bare (y_stridx (m := i + 1) Tryd.underlying9 rfl rfl (by omega) (by omega) (by omega))) rfl rfl rfl ?_
              refine gop_on rfl rfl rfl rfl hg48 ?_
              refine gop (y_bare (y_gtr rfl rfl)) rfl rfl rfl ?_
              refine gop (y_pick_f (v := .bool _) rfl hg48 rfl) rfl rfl rfl ?_
              refine gops_nil ?_
              refine hN13 _ _ ?_
              refine gfrom [(0, .string _), (2, .pointer _), (5, .pointer _), (6, .int _ _), (54, .bool _)] ⟨rfl, rfl, rfl, rfl, rfl, trivial⟩ fun σ => ?_
              refine gcond (b := _) rfl (fun hc54 => ?_) (fun hc54 => ?_)
              · 
                replace hc54 := of_decide_eq_true hc54
                have hst := read_stop hn hnb hne hRI (by omega) (by omega)
                refine gseq fun N14 hN14 => ?_
                refine greg ?_
                refine gop (y_loads (cs := [_, _]) Tryd.isAgg32 Tryd.sizeOf32 rfl rfl (cells_box 1 rfl)) rfl rfl rfl ?_
                refine gop_store 0 (v := .agg #[_, _]) (cs' := #[_, _]) rfl rfl Tryd.sizeOf32 rfl rfl rfl rfl (Nat.le_of_ble_eq_true rfl) rfl rfl ?_
                refine gop (y_assign (v := .int _ _) rfl) rfl rfl rfl ?_
                refine gops_nil ?_
                refine hN14 _ _ ?_
                refine gT [box b2 _, box b5 _, rowl _ _ _ _ _ _] rfl ?_
                refine gfrom [(2, .pointer _), (3, .int _ _)] ⟨rfl, rfl, trivial⟩ fun σ => ?_
                refine gret fun w1 hM => ?_
                refine ⟨_, res2 rfl (rc 0 (cs := [_, _]) hM rfl rfl Tryd.isAgg32 Tryd.sizeOf32 rfl) (rt (v := .int _ _) rfl), ?_⟩
                exact ⟨Av, cv, ⟨s.extract 0 (n : Int).toNat, us⟩, _, by rw [hst], (fun h => by rw [hst] at h; exact absurd h (by decide)), hus, rfl, hM.dropTo 2 rfl⟩
              · 
                replace hc54 := of_decide_eq_false hc54
                refine gskip ?_
                refine hN12 _ _ ?_
                refine gfrom [(0, .string _), (2, .pointer _), (5, .pointer _), (6, .int _ _)] ⟨rfl, rfl, rfl, rfl, trivial⟩ fun σ => ?_
                refine greg_e1 [11] [(2, emp)] (by kernel_rfl) ?_
                refine ge_take 0 (TK := [box b2 _, box b5 _, emp]) rfl (by kernel_rfl) (by kernel_rfl) (by kernel_rfl) #[false, false, true, true, true, true, true, true, true, false, false, false] (by kernel_rfl) rfl (y_fieldAddr_box fa32_1 rfl) rfl rfl rfl (weak_emp 2 rfl) (listed' := #[true, false, false, false, false, false, false, false, false, false, false, false]) rfl ?_
                refine ge_take 1 (TK := [box b2 _, box b5 _, emp]) rfl (by kernel_rfl) (by kernel_rfl) (by kernel_rfl) #[true, false, true, true, true, true, true, true, true, false, false, false] (by kernel_rfl) rfl (y_load Tryd.isAgg30 rfl (cell_box 1 rfl rfl)) rfl rfl rfl (weak_emp 2 rfl) (listed' := #[true, true, false, false, false, false, false, false, false, false, false, false]) rfl ?_
                refine ge_take 2 (TK := [box b2 _, box b5 _, emp]) rfl (by kernel_rfl) (by kernel_rfl) (by kernel_rfl) #[true, true, false, true, true, false, false, false, false, false, false, false] (by kernel_rfl) rfl (y_move (v := .string _) rfl) rfl rfl rfl (weak_emp 2 rfl) (listed' := #[true, true, true, false, false, false, false, false, false, false, false, false]) rfl ?_
                refine ge_take 3 (TK := [box b2 _, box b5 _, emp]) rfl (by kernel_rfl) (by kernel_rfl) (by kernel_rfl) #[true, true, true, false, false, false, false, false, false, false, false, false] (by kernel_rfl) rfl (y_move (v := .int _ _) rfl) rfl rfl rfl (weak_emp 2 rfl) (listed' := #[true, true, true, true, false, false, false, false, false, false, false, false]) rfl ?_
                refine ge_take 4 (TK := [box b2 _, box b5 _, emp]) rfl (by kernel_rfl) (by kernel_rfl) (by kernel_rfl) #[true, true, true, true, false, false, false, false, false, false, false, false] (by kernel_rfl) rfl (y_add rfl rfl ⟨by omega, by omega⟩) rfl rfl rfl (weak_emp 2 rfl) (listed' := #[true, true, true, true, true, false, false, false, false, false, false, false]) rfl ?_
                refine ge_take 5 (TK := [box b2 _, box b5 _, emp]) rfl (by kernel_rfl) (by kernel_rfl) (by kernel_rfl) #[true, true, true, true, true, false, false, false, false, false, false, false] (by kernel_rfl) rfl (y_stridx (m := i + 1) Tryd.underlying9 rfl rfl (by omega) (by omega) (by omega)) rfl rfl rfl (weak_emp 2 rfl) (listed' := #[true, true, true, true, true, true, false, false, false, false, false, false]) rfl ?_
                refine ge_take 6 (TK := [box b2 _, box b5 _, emp]) rfl (by kernel_rfl) (by kernel_rfl) (by kernel_rfl) #[true, true, true, true, true, true, false, false, false, false, false, false] (by kernel_rfl) rfl (y_sub8 rfl rfl (by omega) (by have h9 := byteAt_lt s (i + 1); omega)) rfl rfl rfl (weak_emp 2 rfl) (listed' := #[true, true, true, true, true, true, true, false, false, false, false, false]) rfl ?_
                refine ge_take 7 (TK := [box b2 _, box b5 _, emp]) rfl (by kernel_rfl) (by kernel_rfl) (by kernel_rfl) #[true, true, true, true, true, true, true, false, false, false, false, false] (by kernel_rfl) rfl (y_toInt (by kernel_rfl) Tryd.underlying3 rfl (by omega) (by have h9 := byteAt_lt s (i + 1); omega)) rfl rfl rfl (weak_emp 2 rfl) (listed' := #[true, true, true, true, true, true, true, true, false, false, false, false]) rfl ?_
                refine ge_one 8 (k' := 0) (listed' := #[true, true, true, true, true, true, true, true, true, false, false, false]) (by kernel_rfl) rfl rfl rfl ?_
                refine gop_lit (vs := [.int _ _]) (cells := #[_]) Tryd.underlying30 Tryd.sizeOf3 Tryd.zeroValue3 rfl (by decide) (by decide) rfl rfl rfl rfl (fun b64 hb64 => ?_)
                refine gops_nil ?_
                refine ge_fin (TK := [box b2 _, box b5 _, emp]) rfl (weak_trans (weak_take (T' := [box b2 _, box b5 _, rowl _ _ _ _ _ _]) rfl) (weak_emp 2 rfl)) ?_
                refine ge_one 9 (k' := 0) (listed' := #[true, true, true, true, true, true, true, true, true, true, false, false]) (by kernel_rfl) rfl rfl rfl ?_
                refine gop_append 2 (f := intCells) (l2 := [(byteAt s (i + 1) : Int) - 48]) Tryd.underlying30 el3 wide_int (v := .slice _ _ _) rfl rfl rfl rfl (fun h => by cases h) (by simp [maxLen]; omega) (by simp; omega) (src_box 3 rfl rfl) rfl (fun v65 => ?_)
                refine gops_fact (fun w hM => own_form (hM.own 2 rfl)) ?_
                rintro ⟨A65, c65, rfl, hc65, hm65⟩
                refine gops_nil ?_
                refine ge_fin (TK := [box b2 _, box b5 _, emp]) rfl (weak_trans (weak_take (T' := [box b2 _, box b5 _, rowl _ _ _ _ _ _]) rfl) (weak_emp 2 rfl)) ?_
                refine ge_take 10 (TK := [box b2 _, box b5 _, emp]) rfl (by kernel_rfl) (by kernel_rfl) (by kernel_rfl) #[true, true, true, true, true, true, true, true, true, true, false, false] (by kernel_rfl) rfl (y_fieldAddr_box fa32_1 rfl) rfl rfl rfl (weak_trans (weak_take (T' := [box b2 _, box b5 _, rowl _ _ _ _ _ _]) rfl) (weak_emp 2 rfl)) (listed' := #[true, true, true, true, true, true, true, true, true, true, true, false]) rfl ?_
                refine ge_one 11 (k' := 1) (listed' := #[true, true, true, true, true, true, true, true, true, true, true, true]) (by kernel_rfl) rfl rfl rfl ?_
                refine gop_store 1 (v := .slice A65 _ c65) (cs' := #[_, _]) rfl rfl Tryd.sizeOf30 rfl rfl rfl rfl (Nat.le_of_ble_eq_true rfl) rfl rfl ?_
                refine gops_nil ?_
                refine ge_fin (TK := []) rfl (weak_nil) ?_
                refine ge_done (by kernel_rfl) ?_
                refine hN11 _ _ ?_
                refine gT [box b2 _, box b5 _, rowl _ _ _ _ _ _, box b64 _] rfl ?_
                refine gfrom [(0, .string _), (2, .pointer _), (5, .pointer _), (6, .int _ _)] ⟨rfl, rfl, rfl, rfl, trivial⟩ fun σ => ?_
                refine greg ?_
                refine gop (y_move (v := .int _ _) rfl) rfl rfl rfl ?_
                refine gop (y_add rfl rfl ⟨by omega, by omega⟩) rfl rfl rfl ?_
                refine gop (y_assign (v := .int _ _) rfl) rfl rfl rfl ?_
                refine gops_nil ?_
                refine gnext2 ((i + 2, A65, c65, us ++ [(byteAt s (i + 1) : Int) - 48])) (by show s.size + 1 - (i + 2) < s.size + 1 - i; omega) (⟨by show n ≤ i + 2; omega, by show i + 2 ≤ _; omega, by simp; omega, by simp; omega, hRI.next (by omega) (by omega) (by omega) (by omega)⟩) ⟨rfl, trivial⟩ ⟨rfl, rfl, rfl, trivial⟩ ⟨_, rfl⟩
            · 
              have hg48d := of_decide_eq_true hg48
              refine gop_off rfl rfl rfl rfl hg48 rfl rfl ?_
              refine gop_off rfl rfl rfl rfl hg48 rfl rfl ?_
              refine gop_off rfl rfl rfl rfl hg48 rfl rfl ?_
              refine gop_off rfl rfl rfl rfl hg48 rfl rfl ?_
              refine gop (y_pick_t (v := .bool _) rfl hg48 rfl) rfl rfl rfl ?_
              refine gops_nil ?_
              refine hN13 _ _ ?_
              refine gfrom [(0, .string _), (2, .pointer _), (5, .pointer _), (6, .int _ _), (54, .bool _)] ⟨rfl, rfl, rfl, rfl, rfl, trivial⟩ fun σ => ?_
              refine gcond (b := _) rfl (fun hc54 => ?_) (fun hc54 => ?_)
              · 
                have hst := read_stop hn hnb hne hRI (by omega) (by omega)
                refine gseq fun N15 hN15 => ?_
                refine greg ?_
                refine gop (y_loads (cs := [_, _]) Tryd.isAgg32 Tryd.sizeOf32 rfl rfl (cells_box 1 rfl)) rfl rfl rfl ?_
                refine gop_store 0 (v := .agg #[_, _]) (cs' := #[_, _]) rfl rfl Tryd.sizeOf32 rfl rfl rfl rfl (Nat.le_of_ble_eq_true rfl) rfl rfl ?_
                refine gop (y_assign (v := .int _ _) rfl) rfl rfl rfl ?_
                refine gops_nil ?_
                refine hN15 _ _ ?_
                refine gT [box b2 _, box b5 _, rowl _ _ _ _ _ _] rfl ?_
                refine gfrom [(2, .pointer _), (3, .int _ _)] ⟨rfl, rfl, trivial⟩ fun σ => ?_
                refine gret fun w1 hM => ?_
                refine ⟨_, res2 rfl (rc 0 (cs := [_, _]) hM rfl rfl Tryd.isAgg32 Tryd.sizeOf32 rfl) (rt (v := .int _ _) rfl), ?_⟩
                exact ⟨Av, cv, ⟨s.extract 0 (n : Int).toNat, us⟩, _, by rw [hst], (fun h => by rw [hst] at h; exact absurd h (by decide)), hus, rfl, hM.dropTo 2 rfl⟩
              · 
                cases hc54
          · 
            have hg41d := of_decide_eq_true hg41
            refine gop_off rfl rfl rfl rfl hg41 rfl rfl ?_
            refine gop_off rfl rfl rfl rfl hg41 rfl rfl ?_
            refine gop_off rfl rfl rfl rfl hg41 rfl rfl ?_
            refine gop_off rfl rfl rfl rfl hg41 rfl rfl ?_
            refine gop (y_pick_t (v := .bool _) rfl hg41 rfl) rfl rfl rfl ?_
            refine gop (y_move (v := .bool _) rfl) rfl rfl rfl ?_
            refine gop_off rfl rfl rfl rfl rfl rfl rfl ?_
            refine gop_off rfl rfl rfl rfl rfl rfl rfl ?_
            refine gop_off rfl rfl rfl rfl rfl rfl rfl ?_
            refine gop_off rfl rfl rfl rfl rfl rfl rfl ?_
            refine gop_off rfl rfl rfl rfl rfl rfl rfl ?_
            refine gop (y_pick_t (v := .bool _) rfl rfl rfl) rfl rfl rfl ?_
            refine gops_nil ?_
            refine hN13 _ _ ?_
            refine gfrom [(0, .string _), (2, .pointer _), (5, .pointer _), (6, .int _ _), (54, .bool _)] ⟨rfl, rfl, rfl, rfl, rfl, trivial⟩ fun σ => ?_
            refine gcond (b := _) rfl (fun hc54 => ?_) (fun hc54 => ?_)
            · 
              have hst := read_stop hn hnb hne hRI (by omega) (by omega)
              refine gseq fun N16 hN16 => ?_
              refine greg ?_
              refine gop (y_loads (cs := [_, _]) Tryd.isAgg32 Tryd.sizeOf32 rfl rfl (cells_box 1 rfl)) rfl rfl rfl ?_
              refine gop_store 0 (v := .agg #[_, _]) (cs' := #[_, _]) rfl rfl Tryd.sizeOf32 rfl rfl rfl rfl (Nat.le_of_ble_eq_true rfl) rfl rfl ?_
              refine gop (y_assign (v := .int _ _) rfl) rfl rfl rfl ?_
              refine gops_nil ?_
              refine hN16 _ _ ?_
              refine gT [box b2 _, box b5 _, rowl _ _ _ _ _ _] rfl ?_
              refine gfrom [(2, .pointer _), (3, .int _ _)] ⟨rfl, rfl, trivial⟩ fun σ => ?_
              refine gret fun w1 hM => ?_
              refine ⟨_, res2 rfl (rc 0 (cs := [_, _]) hM rfl rfl Tryd.isAgg32 Tryd.sizeOf32 rfl) (rt (v := .int _ _) rfl), ?_⟩
              exact ⟨Av, cv, ⟨s.extract 0 (n : Int).toNat, us⟩, _, by rw [hst], (fun h => by rw [hst] at h; exact absurd h (by decide)), hus, rfl, hM.dropTo 2 rfl⟩
            · 
              cases hc54
        · 
          have hg34d := of_decide_eq_true hg34
          refine gop_off rfl rfl rfl rfl hg34 rfl rfl ?_
          refine gop_off rfl rfl rfl rfl hg34 rfl rfl ?_
          refine gop_off rfl rfl rfl rfl hg34 rfl rfl ?_
          refine gop_off rfl rfl rfl rfl hg34 rfl rfl ?_
          refine gop (y_pick_t (v := .bool _) rfl hg34 rfl) rfl rfl rfl ?_
          refine gop (y_move (v := .bool _) rfl) rfl rfl rfl ?_
          refine gop_off rfl rfl rfl rfl rfl rfl rfl ?_
          refine gop_off rfl rfl rfl rfl rfl rfl rfl ?_
          refine gop_off rfl rfl rfl rfl rfl rfl rfl ?_
          refine gop_off rfl rfl rfl rfl rfl rfl rfl ?_
          refine gop_off rfl rfl rfl rfl rfl rfl rfl ?_
          refine gop (y_pick_t (v := .bool _) rfl rfl rfl) rfl rfl rfl ?_
          refine gop (y_move (v := .bool _) rfl) rfl rfl rfl ?_
          refine gop_off rfl rfl rfl rfl rfl rfl rfl ?_
          refine gop_off rfl rfl rfl rfl rfl rfl rfl ?_
          refine gop_off rfl rfl rfl rfl rfl rfl rfl ?_
          refine gop_off rfl rfl rfl rfl rfl rfl rfl ?_
          refine gop_off rfl rfl rfl rfl rfl rfl rfl ?_
          refine gop (y_pick_t (v := .bool _) rfl rfl rfl) rfl rfl rfl ?_
          refine gops_nil ?_
          refine hN13 _ _ ?_
          refine gfrom [(0, .string _), (2, .pointer _), (5, .pointer _), (6, .int _ _), (54, .bool _)] ⟨rfl, rfl, rfl, rfl, rfl, trivial⟩ fun σ => ?_
          refine gcond (b := _) rfl (fun hc54 => ?_) (fun hc54 => ?_)
          · 
            have hst := read_stop hn hnb hne hRI (by omega) (by omega)
            refine gseq fun N17 hN17 => ?_
            refine greg ?_
            refine gop (y_loads (cs := [_, _]) Tryd.isAgg32 Tryd.sizeOf32 rfl rfl (cells_box 1 rfl)) rfl rfl rfl ?_
            refine gop_store 0 (v := .agg #[_, _]) (cs' := #[_, _]) rfl rfl Tryd.sizeOf32 rfl rfl rfl rfl (Nat.le_of_ble_eq_true rfl) rfl rfl ?_
            refine gop (y_assign (v := .int _ _) rfl) rfl rfl rfl ?_
            refine gops_nil ?_
            refine hN17 _ _ ?_
            refine gT [box b2 _, box b5 _, rowl _ _ _ _ _ _] rfl ?_
            refine gfrom [(2, .pointer _), (3, .int _ _)] ⟨rfl, rfl, trivial⟩ fun σ => ?_
            refine gret fun w1 hM => ?_
            refine ⟨_, res2 rfl (rc 0 (cs := [_, _]) hM rfl rfl Tryd.isAgg32 Tryd.sizeOf32 rfl) (rt (v := .int _ _) rfl), ?_⟩
            exact ⟨Av, cv, ⟨s.extract 0 (n : Int).toNat, us⟩, _, by rw [hst], (fun h => by rw [hst] at h; exact absurd h (by decide)), hus, rfl, hM.dropTo 2 rfl⟩
          · 
            cases hc54
      · 
        replace hc27 := of_decide_eq_false hc27
        obtain ⟨hd1, hd2⟩ := read_done hn hnb hne hRI (by omega)
        refine gexit ?_
        refine hN7 _ _ ?_
        refine gfrom [(2, .pointer _), (5, .pointer _)] ⟨rfl, rfl, trivial⟩ fun σ => ?_
        refine gseq fun N18 hN18 => ?_
        refine greg_e1 [] [(0, room b2 32 2)] (by kernel_rfl) ?_
        refine ge_take 0 (TK := [room b2 32 2, box b5 _, rowl _ _ _ _ _ _]) rfl (by kernel_rfl) (by kernel_rfl) (by kernel_rfl) #[false, true, true, false, false] (by kernel_rfl) rfl (y_loads (cs := [_, _]) Tryd.isAgg32 Tryd.sizeOf32 rfl rfl (cells_box 1 rfl)) rfl rfl rfl (weak_room 0 rfl rfl) (listed' := #[true, false, false, false, false]) rfl ?_
        refine ge_take 1 (TK := [room b2 32 2, box b5 _, rowl _ _ _ _ _ _]) rfl (by kernel_rfl) (by kernel_rfl) (by kernel_rfl) #[true, false, false, false, false] (by kernel_rfl) rfl (y_loads (cs := [_, _]) Tryd.isAgg32 Tryd.sizeOf32 rfl rfl (cells_box 1 rfl)) rfl rfl rfl (weak_room 0 rfl rfl) (listed' := #[true, true, false, false, false]) rfl ?_
        refine ge_one 2 (k' := 0) (listed' := #[true, true, true, false, false]) (by kernel_rfl) rfl rfl rfl ?_
        refine gop_pure (e_call (vs := [.agg #[_, _]]) Tryd.func56 rfl (by kernel_rfl) rfl) (fun w hM => refRuleCode_any w _ us Av cv ((ruleR_row (hM.ok _ (List.mem_of_getElem? (i := 2) rfl)) (Nat.le_trans (show us.length * 8 ≤ 40000000 by omega) (by decide))).mono (Nat.zero_le _))) rfl rfl rfl ?_
        refine gops_nil ?_
        refine ge_fin (TK := [room b2 32 2, box b5 _, rowl _ _ _ _ _ _]) rfl (weak_room 0 rfl rfl) ?_
        refine ge_one 3 (k' := 0) (listed' := #[true, true, true, true, false]) (by kernel_rfl) rfl rfl rfl ?_
        refine gop_store 0 (v := .agg #[_, _]) (cs' := #[_, _]) rfl rfl Tryd.sizeOf32 rfl rfl rfl rfl (Nat.le_of_ble_eq_true rfl) rfl rfl ?_
        refine gops_nil ?_
        refine ge_fin (TK := [room b2 32 2, box b5 _, rowl _ _ _ _ _ _]) rfl (weak_room 0 rfl rfl) ?_
        refine ge_take 4 (TK := [room b2 32 2, box b5 _, rowl _ _ _ _ _ _]) rfl (by kernel_rfl) (by kernel_rfl) (by kernel_rfl) #[true, true, true, true, false] (by kernel_rfl) rfl (y_assign (v := .int _ _) rfl) rfl rfl rfl (weak_room 0 rfl rfl) (listed' := #[true, true, true, true, true]) rfl ?_
        refine ge_done (by kernel_rfl) ?_
        refine hN18 _ _ ?_
        refine gT [box b2 _, box b5 _, rowl _ _ _ _ _ _] rfl ?_
        refine gfrom [(2, .pointer _), (3, .int _ _)] ⟨rfl, rfl, trivial⟩ fun σ => ?_
        refine gret fun w1 hM => ?_
        refine ⟨_, res2 rfl (rc 0 (cs := [_, _]) hM rfl rfl Tryd.isAgg32 Tryd.sizeOf32 rfl) (rt (v := .int _ _) rfl), ?_⟩
        exact ⟨Av, cv, ⟨s.extract 0 (n : Int).toNat, us⟩, _, by rw [hd2]; rfl, (fun _ => by rw [hd1]; rfl), hus, rfl, hM.dropTo 2 rfl⟩
end Go.Proofs.YtijpaljdclhehaaDoor
namespace Go.Proofs.YtijpaljdclhehaaDoor
open Go.RowKit Go.Cf
set_option maxRecDepth 10000
set_option maxHeartbeats 1000000 in
theorem fault_any (w : World) (c i : Int) : Calls Tryd.prog 31 #[.int .i64 c, .int .i64 i] w fun e w' => e = .returned (fv ⟨c, i⟩) ∧ Below w.heap.size w w' := by
  refine gcalls Tryd.func31 rfl Tryd.ntmps31 (Nat.le_of_ble_eq_true rfl) ?_
  refine gfrom [(0, .int _ _), (1, .int _ _)] ⟨rfl, rfl, trivial⟩ fun σ => ?_
  refine gseq fun N1 hN1 => ?_
  refine greg ?_
  refine gop_alloc (cs := #[.int .i64 0, .int .i64 0]) Tryd.zeroValue23 rfl rfl (fun b4 hb4 => ?_)
  refine gops_nil ?_
  refine hN1 _ _ ?_
  refine gT [box b4 _] rfl ?_
  refine gfrom [(0, .int _ _), (1, .int _ _), (4, .pointer _)] ⟨rfl, rfl, rfl, trivial⟩ fun σ => ?_
  refine gseq fun N2 hN2 => ?_
  refine greg ?_
  refine gop (y_move (v := .int _ _) rfl) rfl rfl rfl ?_
  refine gop (y_move (v := .int _ _) rfl) rfl rfl rfl ?_
  refine gop (y_build (vs := [(0, .int _ _), (1, .int _ _)]) (cells := #[_, _]) rfl (bd23_0_1 _ _)) rfl rfl rfl ?_
  refine gop_store 0 (v := .agg #[_, _]) (cs' := #[_, _]) rfl rfl Tryd.sizeOf23 rfl rfl rfl rfl (Nat.le_of_ble_eq_true rfl) rfl rfl ?_
  refine gops_nil ?_
  refine hN2 _ _ ?_
  refine gT [box b4 _] rfl ?_
  refine gfrom [(4, .pointer _)] ⟨rfl, trivial⟩ fun σ => ?_
  refine gret fun w1 hM => ?_
  refine ⟨_, res1 rfl (rc 0 (cs := [_, _]) hM rfl rfl Tryd.isAgg23 Tryd.sizeOf23 rfl), ?_⟩
  exact ⟨rfl, hM.low⟩
set_option maxHeartbeats 2000000 in
theorem sameGroups_any (w : World) (A B : Option Addr) (c c' : Nat) (l m : List GroupC) (hA : Rdl w 0 1 gpCells A l) (hAe : ∀ a ∈ l, GrR w 0 a) (hB : Rdl w 0 1 gpCells B m) (hBe : ∀ a ∈ m, GrR w 0 a) (hl : l.length ≤ maxLen) : Calls Tryd.prog 34 #[.slice A l.length c, .slice B m.length c'] w fun e w' => e = .returned (.bool (decide (gps l = gps m))) ∧ Below w.heap.size w w' := by
  unfold maxLen at hl
  refine gcalls Tryd.func34 rfl Tryd.ntmps34 (Nat.le_of_ble_eq_true rfl) ?_
  refine gfrom [(0, .slice _ _ _), (1, .slice _ _ _)] ⟨rfl, rfl, trivial⟩ fun σ => ?_
  refine gseq fun N1 hN1 => ?_
  refine greg ?_
  refine gop (y_assign (v := .bool _) rfl) rfl rfl rfl ?_
  refine gops_nil ?_
  refine hN1 _ _ ?_
  refine gfrom [(0, .slice _ _ _), (1, .slice _ _ _)] ⟨rfl, rfl, trivial⟩ fun σ => ?_
  refine gseq fun N2 hN2 => ?_
  refine gseq fun N3 hN3 => ?_
  refine greg ?_
  refine gop (y_move (v := .slice _ _ _) rfl) rfl rfl rfl ?_
  refine gop (y_len Tryd.underlying44 rfl) rfl rfl rfl ?_
  refine gop (y_move (v := .slice _ _ _) rfl) rfl rfl rfl ?_
  refine gop (y_len Tryd.underlying44 rfl) rfl rfl rfl ?_
  refine gop (y_neq rfl rfl) rfl rfl rfl ?_
  refine gops_nil ?_
  refine hN3 _ _ ?_
  refine gfrom [(0, .slice _ _ _), (1, .slice _ _ _), (10, .bool _)] ⟨rfl, rfl, rfl, trivial⟩ fun σ => ?_
  refine gcond (b := _) rfl (fun hc10 => ?_) (fun hc10 => ?_)
  · 
    replace hc10 := of_decide_eq_true hc10
    refine gseq fun N4 hN4 => ?_
    refine greg ?_
    refine gop (y_assign (v := .bool _) rfl) rfl rfl rfl ?_
    refine gops_nil ?_
    refine hN4 _ _ ?_
    refine gfrom [(4, .bool _)] ⟨rfl, trivial⟩ fun σ => ?_
    refine gret fun w1 hM => ?_
    refine ⟨_, res1 rfl (rt (v := .bool _) rfl), ?_⟩
    exact ⟨by rw [decide_eq_false (fun e => by have h1 := congrArg List.length e; simp at h1; omega)], hM.low⟩
  · 
    replace hc10 := Decidable.not_not.1 (of_decide_eq_false hc10)
    refine gskip ?_
    refine hN2 _ _ ?_
    refine gfrom [(0, .slice _ _ _), (1, .slice _ _ _)] ⟨rfl, rfl, trivial⟩ fun σ => ?_
    refine gseq fun N5 hN5 => ?_
    refine gseq fun N6 hN6 => ?_
    refine greg ?_
    refine gop (y_assign (v := .int _ _) rfl) rfl rfl rfl ?_
    refine gops_nil ?_
    refine hN6 _ _ ?_
    refine gfrom [(0, .slice _ _ _), (1, .slice _ _ _), (5, .int _ _)] ⟨rfl, rfl, rfl, trivial⟩ fun σ => ?_
    refine gblock ?_
    refine gfrom2 [(5, .int _ _)] [(0, .slice _ _ _), (1, .slice _ _ _)] ⟨rfl, trivial⟩ ⟨rfl, rfl, trivial⟩ fun σ => ?_
    refine gloop2 (G := Nat) (fun k => k ≤ l.length ∧ l.length = m.length ∧ (gps l).take k = (gps m).take k) (fun k => l.length - k) (fun k => [(5, .int .i64 (k : Int))]) (fun k => []) (0) ?h0 ⟨rfl, trivial⟩ ⟨rfl, rfl, trivial⟩ rfl ?round
    case h0 => exact ⟨Nat.zero_le _, by omega, by simp⟩
    case round =>
      intro k hφ σ
      obtain ⟨hk, hlm, htk⟩ := hφ
      refine gseq fun N7 hN7 => ?_
      refine gseq fun N8 hN8 => ?_
      refine greg ?_
      refine gop (y_move (v := .int _ _) rfl) rfl rfl rfl ?_
      refine gop (y_move (v := .slice _ _ _) rfl) rfl rfl rfl ?_
      refine gop (y_len Tryd.underlying44 rfl) rfl rfl rfl ?_
      refine gop (y_lss rfl rfl) rfl rfl rfl ?_
      refine gops_nil ?_
      refine hN8 _ _ ?_
      refine gfrom [(0, .slice _ _ _), (1, .slice _ _ _), (5, .int _ _), (14, .bool _)] ⟨rfl, rfl, rfl, rfl, trivial⟩ fun σ => ?_
      refine gcond (b := _) rfl (fun hc14 => ?_) (fun hc14 => ?_)
      · 
        replace hc14 := of_decide_eq_true hc14
        have hk1 : k < l.length := by omega
        have hk2 : k < m.length := by omega
        obtain ⟨ad, rfl, -, hca⟩ := hA.at_ hk1
        obtain ⟨ad', rfl, -, hcb⟩ := hB.at_ hk2
        refine gskip ?_
        refine hN7 _ _ ?_
        refine gfrom [(0, .slice _ _ _), (1, .slice _ _ _), (5, .int _ _)] ⟨rfl, rfl, rfl, trivial⟩ fun σ => ?_
        refine gseq fun N9 hN9 => ?_
        refine gblock ?_
        refine gseq fun N10 hN10 => ?_
        refine greg_q (by kernel_rfl) (by kernel_rfl) ?_
        refine gq (y_move (v := .slice _ _ _) rfl) rfl rfl rfl ?_
        refine gq (y_move (v := .int _ _) rfl) rfl rfl rfl ?_
        refine gq (y_indexAddr (m := k) Tryd.underlying44 Tryd.sizeOf30 rfl rfl (by omega) (by omega) (by omega)) rfl rfl rfl ?_
        refine gq (y_load Tryd.isAgg30 rfl (cell_base (hca 0 _ rfl))) rfl rfl rfl ?_
        refine gq (y_move (v := .slice _ _ _) rfl) rfl rfl rfl ?_
        refine gq (y_move (v := .int _ _) rfl) rfl rfl rfl ?_
        refine gq (y_indexAddr (m := k) Tryd.underlying44 Tryd.sizeOf30 rfl rfl (by omega) (by omega) (by omega)) rfl rfl rfl ?_
        refine gq (y_load Tryd.isAgg30 rfl (cell_base (hcb 0 _ rfl))) rfl rfl rfl ?_
        refine gq_pure (e_call (vs := [.slice _ _ _, .slice _ _ _]) Tryd.func20 rfl (by kernel_rfl) rfl) (fun w hM => by have hg := hAe _ (List.getElem_mem hk1); have hq := hBe _ (List.getElem_mem hk2); exact sameInts_any w _ _ _ _ l[k].pl m[k].pl (hg.rd.base hM) (hq.rd.base hM) (Nat.le_trans hg.len hg.max)) rfl rfl rfl ?_
        refine gq (y_not rfl) rfl rfl rfl ?_
        refine gqs_nil ?_
        refine hN10 _ _ ?_
        refine gfrom [(0, .slice _ _ _), (1, .slice _ _ _), (5, .int _ _), (26, .bool _)] ⟨rfl, rfl, rfl, rfl, trivial⟩ fun σ => ?_
        refine gcond (b := _) rfl (fun hc26 => ?_) (fun hc26 => ?_)
        · 
          replace hc26 := not_t hc26
          refine gseq fun N11 hN11 => ?_
          refine greg ?_
          refine gop (y_assign (v := .bool _) rfl) rfl rfl rfl ?_
          refine gops_nil ?_
          refine hN11 _ _ ?_
          refine gfrom [(4, .bool _)] ⟨rfl, trivial⟩ fun σ => ?_
          refine gret fun w1 hM => ?_
          refine ⟨_, res1 rfl (rt (v := .bool _) rfl), ?_⟩
          exact ⟨by rw [decide_eq_false (gps_ne hk1 hk2 (of_decide_eq_false hc26))], hM.low⟩
        · 
          replace hc26 := not_f hc26
          refine gskip ?_
          refine hN9 _ _ ?_
          refine gfrom [(0, .slice _ _ _), (1, .slice _ _ _), (5, .int _ _)] ⟨rfl, rfl, rfl, trivial⟩ fun σ => ?_
          refine greg ?_
          refine gop (y_move (v := .int _ _) rfl) rfl rfl rfl ?_
          refine gop (y_add rfl rfl ⟨by omega, by omega⟩) rfl rfl rfl ?_
          refine gop (y_assign (v := .int _ _) rfl) rfl rfl rfl ?_
          refine gops_nil ?_
          refine gnext2 (k + 1) (by omega) (⟨by omega, hlm, take_next (gps l) (gps m) k (by simpa using hk1) (by simpa using hk2) htk (by simp; exact of_decide_eq_true hc26)⟩) ⟨rfl, trivial⟩ ⟨rfl, rfl, trivial⟩ ⟨_, rfl⟩
      · 
        replace hc14 := of_decide_eq_false hc14
        refine gexit ?_
        refine hN5 _ _ ?_
        refine gfrom [] trivial fun σ => ?_
        refine gseq fun N12 hN12 => ?_
        refine greg ?_
        refine gop (y_assign (v := .bool _) rfl) rfl rfl rfl ?_
        refine gops_nil ?_
        refine hN12 _ _ ?_
        refine gfrom [(4, .bool _)] ⟨rfl, trivial⟩ fun σ => ?_
        refine gret fun w1 hM => ?_
        refine ⟨_, res1 rfl (rt (v := .bool _) rfl), ?_⟩
        exact ⟨by rw [decide_eq_true (eq_of_takes (by simpa using hlm) (by simp; omega) htk)], hM.low⟩
set_option maxHeartbeats 8000000 in
theorem refReq_any (w : World) (A : Option Addr) (c : Nat) (rs : List RuleC) (hR : RulesR w 0 A c rs) (PA : Option Addr) (pc : Nat) (ps : List ByteArray) (hps : Rdl w 0 1 strCells PA ps) (hpl : ps.length ≤ pc) (hpm : pc ≤ maxLen) (hV : rulesF (rls rs) = ⟨0, 0⟩) (hpk : ∀ p ∈ ps, pathOk p = true) (hp24 : ps.length ≤ 24) :
    Calls Tryd.prog 35 #[.slice A rs.length c, .slice PA ps.length pc] w fun e w' => ∃ v T' og, e = .returned v ∧ T' = [rowl gpCells w.heap.size 30 1 (v) (og)] ∧ gps og = reqTo (groupsL (rls rs) ps) ps.length ∧ (∀ a ∈ og, ∃ p, ownV rs p = .slice a.A a.pl.length a.c ∧ a.pl = findU (rls rs) p) ∧ Mem w T' w' := by
  have hln := hR.sb.len
  have hmx := hR.sb.max
  unfold maxLen at hmx
  have hpn : ps.length ≤ 9223372036854775807 := by have h9 := Nat.le_trans hpl hpm; unfold maxLen at h9; omega
  refine gcalls Tryd.func35 rfl Tryd.ntmps35 (Nat.le_of_ble_eq_true rfl) ?_
  refine gfrom [(0, .slice _ _ _), (1, .slice _ _ _)] ⟨rfl, rfl, trivial⟩ fun σ => ?_
  refine gseq fun N1 hN1 => ?_
  refine greg ?_
  refine gop (y_assign (v := .slice _ _ _) rfl) rfl rfl rfl ?_
  refine gops_nil ?_
  refine hN1 _ _ ?_
  refine gfrom [(0, .slice _ _ _), (1, .slice _ _ _)] ⟨rfl, rfl, trivial⟩ fun σ => ?_
  refine gseq fun N2 hN2 => ?_
  refine greg ?_
  refine gop (y_assign (v := .slice _ _ _) rfl) rfl rfl rfl ?_
  refine gops_nil ?_
  refine hN2 _ _ ?_
  refine gfrom [(0, .slice _ _ _), (1, .slice _ _ _), (5, .slice _ _ _)] ⟨rfl, rfl, rfl, trivial⟩ fun σ => ?_
  refine gseq fun N3 hN3 => ?_
  refine gseq fun N4 hN4 => ?_
  refine greg ?_
  refine gop (y_assign (v := .int _ _) rfl) rfl rfl rfl ?_
  refine gops_nil ?_
  refine hN4 _ _ ?_
  refine gfrom [(0, .slice _ _ _), (1, .slice _ _ _), (5, .slice _ _ _), (6, .int _ _)] ⟨rfl, rfl, rfl, rfl, trivial⟩ fun σ => ?_
  refine gblock ?_
  refine gnilrow gpCells 30 1 ?_
  refine gfrom2 [(5, .slice _ _ _), (6, .int _ _)] [(0, .slice _ _ _), (1, .slice _ _ _)] ⟨rfl, rfl, trivial⟩ ⟨rfl, rfl, trivial⟩ fun σ => ?_
  refine gloop2 (G := Nat × Option Addr × Nat × List GroupC) (fun (i, Av, cv, og) => i ≤ ps.length ∧ gps og = reqTo (groupsL (rls rs) ps) i ∧ (∀ a ∈ og, ∃ p, ownV rs p = .slice a.A a.pl.length a.c ∧ a.pl = findU (rls rs) p)) (fun (i, Av, cv, og) => ps.length - i) (fun (i, Av, cv, og) => [(5, .slice Av og.length cv), (6, .int .i64 (i : Int))]) (fun (i, Av, cv, og) => [(0, rowl gpCells w.heap.size 30 1 (.slice Av og.length cv) (og))]) ((0, none, 0, [])) ?h0 ⟨rfl, rfl, trivial⟩ ⟨rfl, rfl, trivial⟩ rfl ?round
  case h0 => exact ⟨Nat.zero_le _, rfl, fun _ h => (by cases h)⟩
  case round =>
    rintro ⟨i, Av, cv, og⟩ hφ σ
    obtain ⟨hi, ho, hg⟩ := hφ
    have hol : og.length ≤ i := by have h8 := congrArg List.length ho; have h9 := req_len (groupsL (rls rs) ps) i; simp only [List.length_map] at h8; omega
    refine gT [rowl _ _ _ _ _ _] rfl ?_
    refine gseq fun N5 hN5 => ?_
    refine gseq fun N6 hN6 => ?_
    refine greg ?_
    refine gop (y_move (v := .int _ _) rfl) rfl rfl rfl ?_
    refine gop (y_move (v := .slice _ _ _) rfl) rfl rfl rfl ?_
    refine gop (y_len Tryd.underlying37 rfl) rfl rfl rfl ?_
    refine gop (y_lss rfl rfl) rfl rfl rfl ?_
    refine gops_nil ?_
    refine hN6 _ _ ?_
    refine gfrom [(0, .slice _ _ _), (1, .slice _ _ _), (5, .slice Av _ cv), (6, .int _ _), (14, .bool _)] ⟨rfl, rfl, rfl, rfl, rfl, trivial⟩ fun σ => ?_
    refine gcond (b := _) rfl (fun hc14 => ?_) (fun hc14 => ?_)
    · 
      replace hc14 := of_decide_eq_true hc14
      have hi1 : i < ps.length := by omega
      obtain ⟨ad, rfl, -, hca⟩ := hps.at_ hi1
      obtain ⟨Bi, di, hoi, hgi⟩ := ownV_read hR ps[i]
      refine gskip ?_
      refine hN5 _ _ ?_
      refine gfrom [(0, .slice _ _ _), (1, .slice _ _ _), (5, .slice Av _ cv), (6, .int _ _)] ⟨rfl, rfl, rfl, rfl, trivial⟩ fun σ => ?_
      refine gseq fun N7 hN7 => ?_
      refine gblock ?_
      refine gseq fun N8 hN8 => ?_
      refine greg ?_
      refine gop (y_move (v := .slice _ _ _) rfl) rfl rfl rfl ?_
      refine gop (y_move (v := .slice _ _ _) rfl) rfl rfl rfl ?_
      refine gop (y_move (v := .int _ _) rfl) rfl rfl rfl ?_
      refine gop (y_indexAddr (m := i) Tryd.underlying37 Tryd.sizeOf9 rfl rfl (by omega) (by omega) (by omega)) rfl rfl rfl ?_
      refine gop (y_load Tryd.isAgg9 rfl (cell_base (hca 0 _ rfl))) rfl rfl rfl ?_
      refine gop_pure (e_call (vs := [.slice _ _ _, .string _]) Tryd.func33 rfl (by kernel_rfl) rfl) (fun w hM => by have hc := refOwners_any w A c rs (RulesR.lasts.base hR hM) ps[i] (fun a ha => Nat.le_trans (patFault_size (ruleCode_zero (rulesF_each hV a.pl (List.mem_map.2 ⟨a, ha, rfl⟩))).1) (by decide)) (Nat.le_trans (pathOk_size (hpk _ (List.getElem_mem hi1))) (by decide)); rw [hoi] at hc; exact hc) rfl rfl rfl ?_
      refine gop (y_assign (v := .slice _ _ _) rfl) rfl rfl rfl ?_
      refine gops_nil ?_
      refine hN8 _ _ ?_
      refine gfrom [(0, .slice _ _ _), (1, .slice _ _ _), (5, .slice Av _ cv), (6, .int _ _), (7, .slice _ _ _)] ⟨rfl, rfl, rfl, rfl, rfl, trivial⟩ fun σ => ?_
      refine gseq fun N9 hN9 => ?_
      refine greg ?_
      refine gop (y_move (v := .slice _ _ _) rfl) rfl rfl rfl ?_
      refine gop (y_len Tryd.underlying30 rfl) rfl rfl rfl ?_
      refine gop (y_gtr rfl rfl) rfl rfl rfl ?_
      refine gop (y_assign (v := .bool _) rfl) rfl rfl rfl ?_
      refine gops_nil ?_
      refine hN9 _ _ ?_
      refine gfrom [(0, .slice _ _ _), (1, .slice _ _ _), (5, .slice Av _ cv), (6, .int _ _), (7, .slice _ _ _), (8, .bool _)] ⟨rfl, rfl, rfl, rfl, rfl, rfl, trivial⟩ fun σ => ?_
      refine gseq fun N10 hN10 => ?_
      refine gseq fun N11 hN11 => ?_
      refine greg ?_
      refine gop (y_assign (v := .int _ _) rfl) rfl rfl rfl ?_
      refine gops_nil ?_
      refine hN11 _ _ ?_
      refine gfrom [(0, .slice _ _ _), (1, .slice _ _ _), (5, .slice Av _ cv), (6, .int _ _), (7, .slice _ _ _), (8, .bool _), (9, .int _ _)] ⟨rfl, rfl, rfl, rfl, rfl, rfl, rfl, trivial⟩ fun σ => ?_
      refine gblock ?_
      refine gfrom2 [(8, .bool _), (9, .int _ _)] [(0, .slice _ _ _), (1, .slice _ _ _), (5, .slice Av _ cv), (6, .int _ _), (7, .slice _ _ _)] ⟨rfl, rfl, trivial⟩ ⟨rfl, rfl, rfl, rfl, rfl, trivial⟩ fun σ => ?_
      refine gloop2 (G := Nat) (fun k => k ≤ ps.length) (fun k => ps.length - k) (fun k => [(8, .bool (needTo (groupsL (rls rs) ps) i k)), (9, .int .i64 (k : Int))]) (fun k => []) (0) ?h0 ⟨congrArg Value.bool (by rw [needTo, gAt_groups hi1]; simp), rfl, trivial⟩ ⟨rfl, rfl, rfl, rfl, rfl, trivial⟩ rfl ?round
      case h0 => exact Nat.zero_le _
      case round =>
        intro k hφ σ
        have hk : k ≤ ps.length := hφ
        refine gseq fun N12 hN12 => ?_
        refine gseq fun N13 hN13 => ?_
        refine greg ?_
        refine gop (y_move (v := .int _ _) rfl) rfl rfl rfl ?_
        refine gop (y_move (v := .slice _ _ _) rfl) rfl rfl rfl ?_
        refine gop (y_len Tryd.underlying37 rfl) rfl rfl rfl ?_
        refine gop (y_lss rfl rfl) rfl rfl rfl ?_
        refine gops_nil ?_
        refine hN13 _ _ ?_
        refine gfrom [(0, .slice _ _ _), (1, .slice _ _ _), (5, .slice Av _ cv), (6, .int _ _), (7, .slice _ _ _), (8, .bool _), (9, .int _ _), (29, .bool _)] ⟨rfl, rfl, rfl, rfl, rfl, rfl, rfl, rfl, trivial⟩ fun σ => ?_
        refine gcond (b := _) rfl (fun hc29 => ?_) (fun hc29 => ?_)
        · 
          replace hc29 := of_decide_eq_true hc29
          have hk1 : k < ps.length := by omega
          obtain ⟨ad', he', -, hcb⟩ := hps.at_ hk1
          cases he'
          obtain ⟨Bk, dk, hok, hgk⟩ := ownV_read hR ps[k]
          refine gskip ?_
          refine hN12 _ _ ?_
          refine gfrom [(0, .slice _ _ _), (1, .slice _ _ _), (5, .slice Av _ cv), (6, .int _ _), (7, .slice _ _ _), (8, .bool _), (9, .int _ _)] ⟨rfl, rfl, rfl, rfl, rfl, rfl, rfl, trivial⟩ fun σ => ?_
          refine gseq fun N14 hN14 => ?_
          refine gblock ?_
          refine gseq fun N15 hN15 => ?_
          refine greg ?_
          refine gop (y_move (v := .slice _ _ _) rfl) rfl rfl rfl ?_
          refine gop (y_move (v := .slice _ _ _) rfl) rfl rfl rfl ?_
          refine gop (y_move (v := .int _ _) rfl) rfl rfl rfl ?_
          refine gop (y_indexAddr (m := k) Tryd.underlying37 Tryd.sizeOf9 rfl rfl (by omega) (by omega) (by omega)) rfl rfl rfl ?_
          refine gop (y_load Tryd.isAgg9 rfl (cell_base (hcb 0 _ rfl))) rfl rfl rfl ?_
          refine gop_pure (e_call (vs := [.slice _ _ _, .string _]) Tryd.func33 rfl (by kernel_rfl) rfl) (fun w hM => by have hc := refOwners_any w A c rs (RulesR.lasts.base hR hM) ps[k] (fun a ha => Nat.le_trans (patFault_size (ruleCode_zero (rulesF_each hV a.pl (List.mem_map.2 ⟨a, ha, rfl⟩))).1) (by decide)) (Nat.le_trans (pathOk_size (hpk _ (List.getElem_mem hk1))) (by decide)); rw [hok] at hc; exact hc) rfl rfl rfl ?_
          refine gop (y_assign (v := .slice _ _ _) rfl) rfl rfl rfl ?_
          refine gops_nil ?_
          refine hN15 _ _ ?_
          refine gfrom [(0, .slice _ _ _), (1, .slice _ _ _), (5, .slice Av _ cv), (6, .int _ _), (7, .slice _ _ _), (8, .bool _), (9, .int _ _), (10, .slice _ _ _)] ⟨rfl, rfl, rfl, rfl, rfl, rfl, rfl, rfl, trivial⟩ fun σ => ?_
          refine gseq fun N16 hN16 => ?_
          refine gseq fun N17 hN17 => ?_
          refine greg ?_
          refine gop (y_move (v := .slice _ _ _) rfl) rfl rfl rfl ?_
          refine gop (y_len Tryd.underlying30 rfl) rfl rfl rfl ?_
          refine gop (y_eql rfl rfl) rfl rfl rfl ?_
          refine gop (y_move (v := .bool _) rfl) rfl rfl rfl ?_
          refine gop_if (want := false) rfl rfl rfl rfl rfl rfl (fun hg41 => ?_) (fun hg41 => ?_)
          · 
            have hg41d := of_decide_eq_false hg41
            refine gop (y_bare (y_move (v := .slice _ _ _) rfl)) rfl rfl rfl ?_
            refine gop_on rfl rfl rfl rfl hg41 ?_
            refine gop (y_bare (y_move (v := .slice _ _ _) rfl)) rfl rfl rfl ?_
            refine gop_on rfl rfl rfl rfl hg41 ?_
            refine gop_pure (e_call (vs := [.slice _ _ _, .slice _ _ _]) Tryd.func26 rfl (by kernel_rfl) rfl) (fun w hM => within_any w Bk dk (findU (rls rs) ps[k]) (hgk.rd.base hM) (Nat.le_trans hgk.len hgk.max) Bi di (findU (rls rs) ps[i]) (hgi.rd.base hM) (Nat.le_trans hgi.len hgi.max)) rfl rfl rfl ?_
            refine gop_on rfl rfl rfl rfl hg41 ?_
            refine gop (y_bare (y_not rfl)) rfl rfl rfl ?_
            refine gop (y_pick_f (v := .bool _) rfl hg41 rfl) rfl rfl rfl ?_
            refine gops_nil ?_
            refine hN17 _ _ ?_
            refine gfrom [(0, .slice _ _ _), (1, .slice _ _ _), (5, .slice Av _ cv), (6, .int _ _), (7, .slice _ _ _), (8, .bool _), (9, .int _ _), (10, .slice _ _ _), (46, .bool _)] ⟨rfl, rfl, rfl, rfl, rfl, rfl, rfl, rfl, rfl, trivial⟩ fun σ => ?_
            refine gcond (b := _) rfl (fun hc46 => ?_) (fun hc46 => ?_)
            · 
              replace hc46 := not_t hc46
              have hb : badR (groupsL (rls rs) ps) i k = false := by rw [badR_at hi1 hk1]; first | (rw [decide_eq_true (show (findU (rls rs) ps[k]).length = 0 by omega)]; rfl) | (rw [show withinB (findU (rls rs) ps[k]) (findU (rls rs) ps[i]) = false from hc46]; simp)
              refine gexit ?_
              refine hN14 _ _ ?_
              refine gfrom [(0, .slice _ _ _), (1, .slice _ _ _), (5, .slice Av _ cv), (6, .int _ _), (7, .slice _ _ _), (8, .bool _), (9, .int _ _)] ⟨rfl, rfl, rfl, rfl, rfl, rfl, rfl, trivial⟩ fun σ => ?_
              refine greg ?_
              refine gop (y_move (v := .int _ _) rfl) rfl rfl rfl ?_
              refine gop (y_add rfl rfl ⟨by omega, by omega⟩) rfl rfl rfl ?_
              refine gop (y_assign (v := .int _ _) rfl) rfl rfl rfl ?_
              refine gops_nil ?_
              refine gnext2 (k + 1) (by omega) (show k + 1 ≤ _ by omega) ⟨congrArg Value.bool (by rw [needTo_next, hb]; simp), rfl, trivial⟩ ⟨rfl, rfl, rfl, rfl, rfl, trivial⟩ ⟨_, rfl⟩
            · 
              replace hc46 := not_f hc46
              have hw : withinB (findU (rls rs) ps[k]) (findU (rls rs) ps[i]) = true := hc46
              refine gskip ?_
              refine hN16 _ _ ?_
              refine gfrom [(0, .slice _ _ _), (1, .slice _ _ _), (5, .slice Av _ cv), (6, .int _ _), (7, .slice _ _ _), (8, .bool _), (9, .int _ _), (10, .slice _ _ _)] ⟨rfl, rfl, rfl, rfl, rfl, rfl, rfl, rfl, trivial⟩ fun σ => ?_
              refine gseq fun N18 hN18 => ?_
              refine greg ?_
              refine gop (y_move (v := .slice _ _ _) rfl) rfl rfl rfl ?_
              refine gop (y_len Tryd.underlying30 rfl) rfl rfl rfl ?_
              refine gop (y_move (v := .slice _ _ _) rfl) rfl rfl rfl ?_
              refine gop (y_len Tryd.underlying30 rfl) rfl rfl rfl ?_
              refine gop (y_lss rfl rfl) rfl rfl rfl ?_
              refine gop (y_move (v := .bool _) rfl) rfl rfl rfl ?_
              refine gop_if (want := false) rfl rfl rfl rfl rfl rfl (fun hg52 => ?_) (fun hg52 => ?_)
              · 
                have hg52d := of_decide_eq_false hg52
                refine gop (y_bare (y_move (v := .int _ _) rfl)) rfl rfl rfl ?_
                refine gop_on rfl rfl rfl rfl hg52 ?_
                refine gop (y_bare (y_move (v := .int _ _) rfl)) rfl rfl rfl ?_
                refine gop_on rfl rfl rfl rfl hg52 ?_
                refine gop (y_bare (y_lss rfl rfl)) rfl rfl rfl ?_
                refine gop (y_pick_f (v := .bool _) rfl hg52 rfl) rfl rfl rfl ?_
                refine gops_nil ?_
                refine hN18 _ _ ?_
                refine gfrom [(0, .slice _ _ _), (1, .slice _ _ _), (5, .slice Av _ cv), (6, .int _ _), (7, .slice _ _ _), (8, .bool _), (9, .int _ _), (56, .bool _)] ⟨rfl, rfl, rfl, rfl, rfl, rfl, rfl, rfl, trivial⟩ fun σ => ?_
                refine gcond (b := _) rfl (fun hc56 => ?_) (fun hc56 => ?_)
                · 
                  replace hc56 := of_decide_eq_true hc56
                  have hb : badR (groupsL (rls rs) ps) i k = true := by rw [badR_at hi1 hk1, decide_eq_false (show ¬ (findU (rls rs) ps[k]).length = 0 by omega), hw]; first | (rw [decide_eq_true (show (findU (rls rs) ps[k]).length < (findU (rls rs) ps[i]).length by omega)]; rfl) | (rw [decide_eq_true (show k < i by omega)]; simp)
                  refine greg ?_
                  refine gop (y_assign (v := .bool _) rfl) rfl rfl rfl ?_
                  refine gops_nil ?_
                  refine hN14 _ _ ?_
                  refine gfrom [(0, .slice _ _ _), (1, .slice _ _ _), (5, .slice Av _ cv), (6, .int _ _), (7, .slice _ _ _), (8, .bool _), (9, .int _ _)] ⟨rfl, rfl, rfl, rfl, rfl, rfl, rfl, trivial⟩ fun σ => ?_
                  refine greg ?_
                  refine gop (y_move (v := .int _ _) rfl) rfl rfl rfl ?_
                  refine gop (y_add rfl rfl ⟨by omega, by omega⟩) rfl rfl rfl ?_
                  refine gop (y_assign (v := .int _ _) rfl) rfl rfl rfl ?_
                  refine gops_nil ?_
                  refine gnext2 (k + 1) (by omega) (show k + 1 ≤ _ by omega) ⟨congrArg Value.bool (by rw [needTo_next, hb]; simp), rfl, trivial⟩ ⟨rfl, rfl, rfl, rfl, rfl, trivial⟩ ⟨_, rfl⟩
                · 
                  replace hc56 := of_decide_eq_false hc56
                  have hb : badR (groupsL (rls rs) ps) i k = false := by rw [badR_at hi1 hk1, decide_eq_false (show ¬ (findU (rls rs) ps[k]).length = 0 by omega), hw, decide_eq_false (show ¬ (findU (rls rs) ps[k]).length < (findU (rls rs) ps[i]).length by omega), decide_eq_false (show ¬ k < i by omega)]; rfl
                  refine gskip ?_
                  refine hN14 _ _ ?_
                  refine gfrom [(0, .slice _ _ _), (1, .slice _ _ _), (5, .slice Av _ cv), (6, .int _ _), (7, .slice _ _ _), (8, .bool _), (9, .int _ _)] ⟨rfl, rfl, rfl, rfl, rfl, rfl, rfl, trivial⟩ fun σ => ?_
                  refine greg ?_
                  refine gop (y_move (v := .int _ _) rfl) rfl rfl rfl ?_
                  refine gop (y_add rfl rfl ⟨by omega, by omega⟩) rfl rfl rfl ?_
                  refine gop (y_assign (v := .int _ _) rfl) rfl rfl rfl ?_
                  refine gops_nil ?_
                  refine gnext2 (k + 1) (by omega) (show k + 1 ≤ _ by omega) ⟨congrArg Value.bool (by rw [needTo_next, hb]; simp), rfl, trivial⟩ ⟨rfl, rfl, rfl, rfl, rfl, trivial⟩ ⟨_, rfl⟩
              · 
                have hg52d := of_decide_eq_true hg52
                refine gop_off rfl rfl rfl rfl hg52 rfl rfl ?_
                refine gop_off rfl rfl rfl rfl hg52 rfl rfl ?_
                refine gop (y_pick_t (v := .bool _) rfl hg52 rfl) rfl rfl rfl ?_
                refine gops_nil ?_
                refine hN18 _ _ ?_
                refine gfrom [(0, .slice _ _ _), (1, .slice _ _ _), (5, .slice Av _ cv), (6, .int _ _), (7, .slice _ _ _), (8, .bool _), (9, .int _ _), (56, .bool _)] ⟨rfl, rfl, rfl, rfl, rfl, rfl, rfl, rfl, trivial⟩ fun σ => ?_
                refine gcond (b := _) rfl (fun hc56 => ?_) (fun hc56 => ?_)
                · 
                  have hb : badR (groupsL (rls rs) ps) i k = true := by rw [badR_at hi1 hk1, decide_eq_false (show ¬ (findU (rls rs) ps[k]).length = 0 by omega), hw]; first | (rw [decide_eq_true (show (findU (rls rs) ps[k]).length < (findU (rls rs) ps[i]).length by omega)]; rfl) | (rw [decide_eq_true (show k < i by omega)]; simp)
                  refine greg ?_
                  refine gop (y_assign (v := .bool _) rfl) rfl rfl rfl ?_
                  refine gops_nil ?_
                  refine hN14 _ _ ?_
                  refine gfrom [(0, .slice _ _ _), (1, .slice _ _ _), (5, .slice Av _ cv), (6, .int _ _), (7, .slice _ _ _), (8, .bool _), (9, .int _ _)] ⟨rfl, rfl, rfl, rfl, rfl, rfl, rfl, trivial⟩ fun σ => ?_
                  refine greg ?_
                  refine gop (y_move (v := .int _ _) rfl) rfl rfl rfl ?_
                  refine gop (y_add rfl rfl ⟨by omega, by omega⟩) rfl rfl rfl ?_
                  refine gop (y_assign (v := .int _ _) rfl) rfl rfl rfl ?_
                  refine gops_nil ?_
                  refine gnext2 (k + 1) (by omega) (show k + 1 ≤ _ by omega) ⟨congrArg Value.bool (by rw [needTo_next, hb]; simp), rfl, trivial⟩ ⟨rfl, rfl, rfl, rfl, rfl, trivial⟩ ⟨_, rfl⟩
                · 
                  cases hc56
          · 
            have hg41d := of_decide_eq_true hg41
            refine gop_off rfl rfl rfl rfl hg41 rfl rfl ?_
            refine gop_off rfl rfl rfl rfl hg41 rfl rfl ?_
            refine gop_off rfl rfl rfl rfl hg41 rfl rfl ?_
            refine gop (y_pick_t (v := .bool _) rfl hg41 rfl) rfl rfl rfl ?_
            refine gops_nil ?_
            refine hN17 _ _ ?_
            refine gfrom [(0, .slice _ _ _), (1, .slice _ _ _), (5, .slice Av _ cv), (6, .int _ _), (7, .slice _ _ _), (8, .bool _), (9, .int _ _), (10, .slice _ _ _), (46, .bool _)] ⟨rfl, rfl, rfl, rfl, rfl, rfl, rfl, rfl, rfl, trivial⟩ fun σ => ?_
            refine gcond (b := _) rfl (fun hc46 => ?_) (fun hc46 => ?_)
            · 
              have hb : badR (groupsL (rls rs) ps) i k = false := by rw [badR_at hi1 hk1]; first | (rw [decide_eq_true (show (findU (rls rs) ps[k]).length = 0 by omega)]; rfl) | (rw [show withinB (findU (rls rs) ps[k]) (findU (rls rs) ps[i]) = false from hc46]; simp)
              refine gexit ?_
              refine hN14 _ _ ?_
              refine gfrom [(0, .slice _ _ _), (1, .slice _ _ _), (5, .slice Av _ cv), (6, .int _ _), (7, .slice _ _ _), (8, .bool _), (9, .int _ _)] ⟨rfl, rfl, rfl, rfl, rfl, rfl, rfl, trivial⟩ fun σ => ?_
              refine greg ?_
              refine gop (y_move (v := .int _ _) rfl) rfl rfl rfl ?_
              refine gop (y_add rfl rfl ⟨by omega, by omega⟩) rfl rfl rfl ?_
              refine gop (y_assign (v := .int _ _) rfl) rfl rfl rfl ?_
              refine gops_nil ?_
              refine gnext2 (k + 1) (by omega) (show k + 1 ≤ _ by omega) ⟨congrArg Value.bool (by rw [needTo_next, hb]; simp), rfl, trivial⟩ ⟨rfl, rfl, rfl, rfl, rfl, trivial⟩ ⟨_, rfl⟩
            · 
              cases hc46
        · 
          replace hc29 := of_decide_eq_false hc29
          have hN : needTo (groupsL (rls rs) ps) i k = needG (groupsL (rls rs) ps) i := by rw [show k = (groupsL (rls rs) ps).length by rw [groups_len]; omega]; exact need_eq (groups_sorted hV ps) (by rw [groups_len]; exact hi1)
          refine gexit ?_
          refine hN10 _ _ ?_
          refine gfrom [(0, .slice _ _ _), (1, .slice _ _ _), (5, .slice Av _ cv), (6, .int _ _), (7, .slice _ _ _), (8, .bool _)] ⟨rfl, rfl, rfl, rfl, rfl, rfl, trivial⟩ fun σ => ?_
          refine gseq fun N19 hN19 => ?_
          refine greg ?_
          refine gop (y_move (v := .bool _) rfl) rfl rfl rfl ?_
          refine gops_nil ?_
          refine hN19 _ _ ?_
          refine gfrom [(0, .slice _ _ _), (1, .slice _ _ _), (5, .slice Av _ cv), (6, .int _ _), (7, .slice _ _ _), (57, .bool _)] ⟨rfl, rfl, rfl, rfl, rfl, rfl, trivial⟩ fun σ => ?_
          refine gcond (b := _) rfl (fun hc57 => ?_) (fun hc57 => ?_)
          · 
            refine greg ?_
            refine gop (y_move (v := .slice Av _ cv) rfl) rfl rfl rfl ?_
            refine gop (y_move (v := .slice _ _ _) rfl) rfl rfl rfl ?_
            refine gop_lit (vs := [.slice _ _ _]) (cells := #[_]) Tryd.underlying44 Tryd.sizeOf30 Tryd.zeroValue30 rfl (by decide) (by decide) rfl rfl rfl rfl (fun b60 hb60 => ?_)
            refine gop_append 0 (f := gpCells) (l2 := [⟨findU (rls rs) ps[i], Bi, di⟩]) Tryd.underlying44 el30 wide_gp (v := .slice Av _ cv) rfl rfl rfl rfl (fun h => by cases h) (by simp [maxLen]; omega) (by simp; omega) (src_box 1 rfl rfl) rfl (fun v61 => ?_)
            refine gops_fact (fun w hM => own_form (hM.own 0 rfl)) ?_
            rintro ⟨A61, c61, rfl, hc61, hm61⟩
            refine gop (y_assign (v := .slice A61 _ c61) rfl) rfl rfl rfl ?_
            refine gops_nil ?_
            refine hN7 _ _ ?_
            refine gT [rowl _ _ _ _ _ _, box b60 _] rfl ?_
            refine gfrom [(0, .slice _ _ _), (1, .slice _ _ _), (5, .slice A61 _ c61), (6, .int _ _)] ⟨rfl, rfl, rfl, rfl, trivial⟩ fun σ => ?_
            refine greg ?_
            refine gop (y_move (v := .int _ _) rfl) rfl rfl rfl ?_
            refine gop (y_add rfl rfl ⟨by omega, by omega⟩) rfl rfl rfl ?_
            refine gop (y_assign (v := .int _ _) rfl) rfl rfl rfl ?_
            refine gops_nil ?_
            refine gnext2 ((i + 1, A61, c61, og ++ [⟨findU (rls rs) ps[i], Bi, di⟩])) (by show ps.length - (i + 1) < ps.length - i; omega) (⟨by show i + 1 ≤ _; omega, by show List.map _ _ = _; rw [List.map_append, reqTo_next, ← hN, hc57, if_pos rfl, gAt_groups hi1, ← ho]; rfl, fun a ha => (List.mem_append.1 ha).elim (hg a) (fun h1 => by rw [List.mem_singleton.1 h1]; exact ⟨ps[i], hoi, rfl⟩)⟩) ⟨rfl, rfl, trivial⟩ ⟨rfl, rfl, trivial⟩ ⟨_, rfl⟩
          · 
            refine gskip ?_
            refine hN7 _ _ ?_
            refine gfrom [(0, .slice _ _ _), (1, .slice _ _ _), (5, .slice Av _ cv), (6, .int _ _)] ⟨rfl, rfl, rfl, rfl, trivial⟩ fun σ => ?_
            refine greg ?_
            refine gop (y_move (v := .int _ _) rfl) rfl rfl rfl ?_
            refine gop (y_add rfl rfl ⟨by omega, by omega⟩) rfl rfl rfl ?_
            refine gop (y_assign (v := .int _ _) rfl) rfl rfl rfl ?_
            refine gops_nil ?_
            refine gnext2 ((i + 1, Av, cv, og)) (by show ps.length - (i + 1) < ps.length - i; omega) (⟨by show i + 1 ≤ _; omega, by rw [reqTo_next, ← hN, hc57, if_neg (by simp), ho, List.append_nil], hg⟩) ⟨rfl, rfl, trivial⟩ ⟨rfl, rfl, trivial⟩ ⟨_, rfl⟩
    · 
      replace hc14 := of_decide_eq_false hc14
      refine gexit ?_
      refine hN3 _ _ ?_
      refine gfrom [(5, .slice Av _ cv)] ⟨rfl, trivial⟩ fun σ => ?_
      refine gseq fun N20 hN20 => ?_
      refine greg ?_
      refine gop (y_move (v := .slice Av _ cv) rfl) rfl rfl rfl ?_
      refine gop (y_assign (v := .slice Av _ cv) rfl) rfl rfl rfl ?_
      refine gops_nil ?_
      refine hN20 _ _ ?_
      refine gfrom [(4, .slice Av _ cv)] ⟨rfl, trivial⟩ fun σ => ?_
      refine gret fun w1 hM => ?_
      refine ⟨_, res1 rfl (rt (v := .slice Av _ cv) rfl), ?_⟩
      exact ⟨_, _, og, rfl, rfl, by rw [ho, show i = ps.length by omega], hg, hM⟩
end Go.Proofs.YtijpaljdclhehaaDoor
