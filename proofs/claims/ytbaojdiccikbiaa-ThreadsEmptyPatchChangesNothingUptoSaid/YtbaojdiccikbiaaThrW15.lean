/- walks, printed by program -/
import Derived.Test.YtbaojdiccikbiaaThlA
namespace Go.Proofs.Ytbaojdiccikbiaa
open Go.RowKit Go.Cf
set_option maxRecDepth 10000

theorem el66 : Elem Try.prog 66 6 72 := elem_of (z := .agg #[.int .i64 0, .int .i64 0, .int .i64 0, .int .i64 0, .string .empty, .slice none 0 0]) (by kernel_rfl) rfl (by decide)
theorem bd66_0_1 (x1 : Int) (x2 : Int) : Try.prog.built 66 [(0, .int .i64 x1), (1, .int .i64 x2)] = some #[.int .i64 x1, .int .i64 x2, .int .i64 0, .int .i64 0, .string .empty, .slice none 0 0] := by kernel_rfl

attribute [local irreducible] runV pendR loadR
set_option maxHeartbeats 2000000 in
theorem law15_any (w : World) (B : Option Addr) (d : Nat) (text : List ByteArray) (ht : Rdl w 0 1 strCells B text) (htb : SB B text.length d 16) (E : Option Addr) (ec : Nat) (es : List EvC) (he : EvsR w 0 E es) (hem : es.length ≤ maxLen) (hec : es.length ≤ ec) (hE : E = none → ec = 0) (hel : es.length ≤ 1048576) (user : Int) :
    Calls Try.prog 11 #[.slice B text.length d, .slice E es.length ec, .int .i64 user] w fun e w' => e = .returned (.bool true) ∧ Below w.heap.size w w' := by
  have hmx : maxLen = 9223372036854775807 := rfl
  have htc := htb.len
  have htm := htb.max
  refine gcalls Try.func11 rfl Try.ntmps11 (Nat.le_of_ble_eq_true rfl) ?_
  refine gfrom [(0, .slice _ _ _), (1, .slice _ _ _), (2, .int _ _)] ⟨rfl, rfl, rfl, trivial⟩ fun σ => ?_
  refine gseq fun N1 hN1 => ?_
  refine greg ?_
  refine gop (y_assign (v := .bool _) rfl) rfl rfl rfl ?_
  refine gops_nil ?_
  refine hN1 _ _ ?_
  refine gfrom [(0, .slice _ _ _), (1, .slice _ _ _), (2, .int _ _)] ⟨rfl, rfl, rfl, trivial⟩ fun σ => ?_
  refine gseq fun N2 hN2 => ?_
  refine greg ?_
  refine gop (y_move (v := .slice _ _ _) rfl) rfl rfl rfl ?_
  refine gop (y_move (v := .slice _ _ _) rfl) rfl rfl rfl ?_
  refine gop_new (fun lo ws v => ∃ v1 v2, v = .tuple #[v1, v2, fv (runV text (evs es)).1] ∧ NewL 5 thrCells (runV text (evs es)).2.1 lo ws v1 ∧ NewL 1 strCells (runV text (evs es)).2.2 lo ws v2) (e_call (vs := [.slice _ _ _, .slice _ _ _]) Try.func24 rfl (by kernel_rfl) rfl) (fun w hM => by have hc := run_any w B d text (ht.base hM) htb E ec es (EvsR.lasts.base he hM) hem; exact hc.mono fun _ _ ⟨v1, v2, h1, h2, h3, h4⟩ => ⟨_, h1, h2, v1, v2, rfl, h3, h4⟩) rfl rfl rfl ?_
  rintro _ lo16 ws16 hlo16 ⟨_, _, rfl, ⟨A16, c16, rfl, hcc16, hcm16, hr16⟩, ⟨B16, d16, rfl, hdc16, hdm16, hq16⟩⟩
  refine gop (y_move (v := .tuple #[.slice _ _ _, .slice _ _ _, .agg #[_, _]]) rfl) rfl rfl rfl ?_
  refine gop (y_extract (v := .slice _ _ _) rfl rfl) rfl rfl rfl ?_
  refine gop (y_extract (v := .slice _ _ _) rfl rfl) rfl rfl rfl ?_
  refine gop (y_extract (v := .agg #[_, _]) rfl rfl) rfl rfl rfl ?_
  refine gop_alloc (cs := #[.int .i64 0, .int .i64 0]) Try.zeroValue27 rfl rfl (fun b9 hb9 => ?_)
  refine gop (y_assign (v := .slice _ _ _) rfl) rfl rfl rfl ?_
  refine gop (y_assign (v := .slice _ _ _) rfl) rfl rfl rfl ?_
  refine gop_store 1 (v := .agg #[_, _]) (cs' := #[_, _]) rfl rfl Try.sizeOf27 rfl rfl rfl rfl (Nat.le_of_ble_eq_true rfl) rfl rfl ?_
  refine gops_nil ?_
  refine hN2 _ _ ?_
  refine gT [seal_ _ _, box b9 _] rfl ?_
  refine gfrom [(0, .slice _ _ _), (1, .slice _ _ _), (2, .int _ _), (7, .slice _ _ _), (8, .slice _ _ _), (9, .pointer _)] ⟨rfl, rfl, rfl, rfl, rfl, rfl, trivial⟩ fun σ => ?_
  refine gseq fun N3 hN3 => ?_
  refine greg ?_
  refine gop (y_move (v := .slice _ _ _) rfl) rfl rfl rfl ?_
  refine gop (y_move (v := .slice _ _ _) rfl) rfl rfl rfl ?_
  refine gops_nilrow evCells 66 6 ?_
  refine gop_append 2 (f := evCells) (l2 := es) Try.underlying54 el66 wide_ev (v := .slice none 0 0) rfl rfl rfl rfl hE (by simp [maxLen]; omega) (by simp; omega) (fun w hM => (he.rd.base hM).src (fun _ => rfl)) rfl (fun v23 => ?_)
  refine gop (y_move (v := .int _ _) rfl) rfl rfl rfl ?_
  refine gop (y_build (vs := [(0, _), (1, .int _ _)]) (cells := #[_, _, .int .i64 0, .int .i64 0, .string .empty, .slice none 0 0]) rfl (bd66_0_1 _ _)) rfl rfl rfl ?_
  refine gop_lit (vs := [.agg #[_, _, _, _, _, _]]) (cells := #[_, _, _, _, _, _]) Try.underlying54 Try.sizeOf66 Try.zeroValue66 rfl (by decide) (by decide) rfl rfl rfl rfl (fun b26 hb26 => ?_)
  refine gop_append 2 (f := evCells) (l2 := [⟨4, user, 0, 0, .empty, none, 0, []⟩]) Try.underlying54 el66 wide_ev (v := v23) rfl rfl rfl rfl (fun h => by cases h) (by simp [maxLen]; omega) (by simp; omega) (src_box 3 rfl rfl) rfl (fun v27 => ?_)
  refine gops_fact (fun w hM => own_form (hM.own 2 rfl)) ?_
  rintro ⟨A27, c27, rfl, hc27, hm27⟩
  refine gop_new (fun lo ws v => ∃ v1 v2, v = .tuple #[v1, v2, fv (runV text (evs es ++ [⟨4, user, 0, 0, .empty, []⟩])).1] ∧ NewL 5 thrCells (runV text (evs es ++ [⟨4, user, 0, 0, .empty, []⟩])).2.1 lo ws v1 ∧ NewL 1 strCells (runV text (evs es ++ [⟨4, user, 0, 0, .empty, []⟩])).2.2 lo ws v2) (e_call (vs := [.slice _ _ _, .slice A27 _ c27]) Try.func24 rfl (by kernel_rfl) rfl) (fun w hM => by have hr : EvsR w 0 A27 (es ++ [⟨4, user, 0, 0, .empty, none, 0, []⟩]) := ⟨(Rdl.of_own (f := evCells) (fun _ => rfl) (hM.own 2 rfl)).mono (Nat.zero_le _), fun q hq => (List.mem_append.1 hq).elim (fun h => EvR.lasts.base (he.each q h) hM) (fun h => by rw [List.mem_singleton.1 h]; exact ⟨PatR.nil⟩)⟩; have hc := run_any w B d text (ht.base hM) htb A27 c27 (es ++ [⟨4, user, 0, 0, .empty, none, 0, []⟩]) hr (by simp; omega); rw [show evs (es ++ [⟨4, user, 0, 0, .empty, none, 0, []⟩]) = evs es ++ [⟨4, user, 0, 0, .empty, []⟩] from List.map_append] at hc; exact hc.mono fun _ _ ⟨v1, v2, h1, h2, h3, h4⟩ => ⟨_, h1, h2, v1, v2, rfl, h3, h4⟩) rfl rfl rfl ?_
  rintro _ lo28 ws28 hlo28 ⟨_, _, rfl, ⟨A28, c28, rfl, hcc28, hcm28, hr28⟩, ⟨B28, d28, rfl, hdc28, hdm28, hq28⟩⟩
  refine gop (y_move (v := .tuple #[.slice _ _ _, .slice _ _ _, .agg #[_, _]]) rfl) rfl rfl rfl ?_
  refine gop (y_extract (v := .slice _ _ _) rfl rfl) rfl rfl rfl ?_
  refine gop (y_extract (v := .slice _ _ _) rfl rfl) rfl rfl rfl ?_
  refine gop (y_extract (v := .agg #[_, _]) rfl rfl) rfl rfl rfl ?_
  refine gop_alloc (cs := #[.int .i64 0, .int .i64 0]) Try.zeroValue27 rfl rfl (fun b12 hb12 => ?_)
  refine gop (y_assign (v := .slice _ _ _) rfl) rfl rfl rfl ?_
  refine gop (y_assign (v := .slice _ _ _) rfl) rfl rfl rfl ?_
  refine gop_store 5 (v := .agg #[_, _]) (cs' := #[_, _]) rfl rfl Try.sizeOf27 rfl rfl rfl rfl (Nat.le_of_ble_eq_true rfl) rfl rfl ?_
  refine gops_nil ?_
  refine hN3 _ _ ?_
  refine gT [seal_ _ _, box b9 _, rowl _ _ _ _ _ _, box b26 _, seal_ _ _, box b12 _] rfl ?_
  refine gfrom [(7, .slice _ _ _), (8, .slice _ _ _), (9, .pointer _), (10, .slice _ _ _), (11, .slice _ _ _), (12, .pointer _)] ⟨rfl, rfl, rfl, rfl, rfl, rfl, trivial⟩ fun σ => ?_
  refine gseq fun N4 hN4 => ?_
  refine gseq fun N5 hN5 => ?_
  refine greg ?_
  refine gop_pure (e_call (vs := []) Try.func27 rfl (by kernel_rfl) rfl) (fun w hM => threadsExample_any w) rfl rfl rfl ?_
  refine gop (y_not rfl) rfl rfl rfl ?_
  refine gops_nil ?_
  refine hN5 _ _ ?_
  refine gfrom [(7, .slice _ _ _), (8, .slice _ _ _), (9, .pointer _), (10, .slice _ _ _), (11, .slice _ _ _), (12, .pointer _), (33, .bool _)] ⟨rfl, rfl, rfl, rfl, rfl, rfl, rfl, trivial⟩ fun σ => ?_
  refine gcond (b := _) rfl (fun hc33 => ?_) (fun hc33 => ?_)
  · -- slot 33 t
    simp at hc33
  · -- slot 33 f
    replace hc33 := not_f hc33
    refine gskip ?_
    refine hN4 _ _ ?_
    refine gfrom [(7, .slice _ _ _), (8, .slice _ _ _), (9, .pointer _), (10, .slice _ _ _), (11, .slice _ _ _), (12, .pointer _)] ⟨rfl, rfl, rfl, rfl, rfl, rfl, trivial⟩ fun σ => ?_
    refine gseq fun N6 hN6 => ?_
    refine greg ?_
    refine gop (y_fieldAddr_box fa27_0 rfl) rfl rfl rfl ?_
    refine gop (y_load Try.isAgg3 rfl (cell_box 1 rfl rfl)) rfl rfl rfl ?_
    refine gop (y_neq rfl rfl) rfl rfl rfl ?_
    refine gop (y_move (v := .bool _) rfl) rfl rfl rfl ?_
    refine gop_if (want := false) rfl rfl rfl rfl rfl rfl (fun hg37 => ?_) (fun hg37 => ?_)
    · -- guard 37 on
      have hg37d := Decidable.not_not.1 (of_decide_eq_false hg37)
      refine gop (y_bare (y_fieldAddr_box fa27_0 rfl)) rfl rfl rfl ?_
      refine gop_on rfl rfl rfl rfl hg37 ?_
      refine gop (y_bare (y_load Try.isAgg3 rfl (cell_box 5 rfl rfl))) rfl rfl rfl ?_
      refine gop_on rfl rfl rfl rfl hg37 ?_
      refine gop (y_bare (y_neq rfl rfl)) rfl rfl rfl ?_
      refine gop (y_pick_f (v := .bool _) rfl hg37 rfl) rfl rfl rfl ?_
      refine gop (y_move (v := .bool _) rfl) rfl rfl rfl ?_
      refine gop_if (want := false) rfl rfl rfl rfl rfl rfl (fun hg42 => ?_) (fun hg42 => ?_)
      · -- guard 42 on
        have hg42d := Decidable.not_not.1 (of_decide_eq_false hg42)
        have hE5 := run_empty (e := ⟨4, user, 0, 0, .empty, []⟩) rfl rfl (runV_code hg42d)
        refine gop (y_bare (y_move (v := .slice _ _ _) rfl)) rfl rfl rfl ?_
        refine gop_on rfl rfl rfl rfl hg42 ?_
        refine gop (y_bare (y_move (v := .slice _ _ _) rfl)) rfl rfl rfl ?_
        refine gop_on rfl rfl rfl rfl hg42 ?_
        refine gop_pure (e_call (vs := [.slice _ _ _, .slice _ _ _]) Try.func29 rfl (by kernel_rfl) rfl) (fun w hM => by have h1 := (hr16.seal_ 0 rfl (Nat.le_refl _) hM).mono (Nat.zero_le _); have h2 := (hr28.seal_ 4 rfl (Nat.le_refl _) hM).mono (Nat.zero_le _); have hc := sameThreads_any w A16 A28 c16 c28 (runV text (evs es)).2.1 (runV text (evs es ++ [⟨4, user, 0, 0, .empty, []⟩])).2.1 h1 h2 (Nat.le_trans hcc16 hcm16); exact hc) rfl rfl rfl ?_
        refine gop_on rfl rfl rfl rfl hg42 ?_
        refine gop (y_bare (y_move (v := .bool _) rfl)) rfl rfl rfl ?_
        refine gop_if (want := true) rfl rfl rfl rfl rfl rfl (fun hg46 => ?_) (fun hg46 => ?_)
        · -- guard 46 on
          have hg46d := hg46
          refine gop (y_bare (y_move (v := .slice _ _ _) rfl)) rfl rfl rfl ?_
          refine gop_on rfl rfl rfl rfl hg46 ?_
          refine gop (y_bare (y_move (v := .slice _ _ _) rfl)) rfl rfl rfl ?_
          refine gop_on rfl rfl rfl rfl hg46 ?_
          refine gop_pure (e_call (vs := [.slice _ _ _, .slice _ _ _]) Try.func30 rfl (by kernel_rfl) rfl) (fun w hM => by have h1 := (hq16.seal_ 0 rfl (Nat.le_refl _) hM).mono (Nat.zero_le _); have h2 := (hq28.seal_ 4 rfl (Nat.le_refl _) hM).mono (Nat.zero_le _); have hc := equalStrings_any w B16 B28 d16 d28 (runV text (evs es)).2.2 (runV text (evs es ++ [⟨4, user, 0, 0, .empty, []⟩])).2.2 h1 h2 (Nat.le_trans hdc16 hdm16); exact hc) rfl rfl rfl ?_
          refine gop_on rfl rfl rfl rfl hg42 ?_
          refine gop (y_bare (y_pick_t (v := .bool _) rfl hg46 rfl)) rfl rfl rfl ?_
          refine gop (y_pick_f (v := .bool _) rfl hg42 rfl) rfl rfl rfl ?_
          refine gop (y_assign (v := .bool _) rfl) rfl rfl rfl ?_
          refine gops_nil ?_
          refine hN6 _ _ ?_
          refine gfrom [(6, .bool _)] ⟨rfl, trivial⟩ fun σ => ?_
          refine gret fun w1 hM => ?_
          refine ⟨_, res1 rfl (rt (v := .bool _) rfl), ?_⟩
          first | exact ⟨by rw [hE5]; simp, hM.low⟩ | exact ⟨rfl, hM.low⟩
        · -- guard 46 off
          rw [hE5] at hg46; simp at hg46
      · -- guard 42 off
        have hg42d := of_decide_eq_true hg42
        refine gop_off rfl rfl rfl rfl hg42 rfl rfl ?_
        refine gop_off rfl rfl rfl rfl hg42 rfl rfl ?_
        refine gop_off rfl rfl rfl rfl hg42 rfl rfl ?_
        refine gop_offu rfl rfl rfl rfl rfl rfl ?_
        refine gop_offu rfl rfl rfl rfl rfl rfl ?_
        refine gop_offu rfl rfl rfl rfl rfl rfl ?_
        refine gop_off rfl rfl rfl rfl hg42 rfl rfl ?_
        refine gop (y_pick_t (v := .bool _) rfl hg42 rfl) rfl rfl rfl ?_
        refine gop (y_assign (v := .bool _) rfl) rfl rfl rfl ?_
        refine gops_nil ?_
        refine hN6 _ _ ?_
        refine gfrom [(6, .bool _)] ⟨rfl, trivial⟩ fun σ => ?_
        refine gret fun w1 hM => ?_
        refine ⟨_, res1 rfl (rt (v := .bool _) rfl), ?_⟩
        first | exact ⟨by rw [hE5]; simp, hM.low⟩ | exact ⟨rfl, hM.low⟩
    · -- guard 37 off
      have hg37d := of_decide_eq_true hg37
      refine gop_off rfl rfl rfl rfl hg37 rfl rfl ?_
      refine gop_off rfl rfl rfl rfl hg37 rfl rfl ?_
      refine gop (y_pick_t (v := .bool _) rfl hg37 rfl) rfl rfl rfl ?_
      refine gop (y_move (v := .bool _) rfl) rfl rfl rfl ?_
      refine gop_off rfl rfl rfl rfl rfl rfl rfl ?_
      refine gop_off rfl rfl rfl rfl rfl rfl rfl ?_
      refine gop_off rfl rfl rfl rfl rfl rfl rfl ?_
      refine gop_off rfl rfl rfl rfl rfl rfl rfl ?_
      refine gop_offu rfl rfl rfl rfl rfl rfl ?_
      refine gop_offu rfl rfl rfl rfl rfl rfl ?_
      refine gop_offu rfl rfl rfl rfl rfl rfl ?_
      refine gop_off rfl rfl rfl rfl rfl rfl rfl ?_
      refine gop (y_pick_t (v := .bool _) rfl rfl rfl) rfl rfl rfl ?_
      refine gop (y_assign (v := .bool _) rfl) rfl rfl rfl ?_
      refine gops_nil ?_
      refine hN6 _ _ ?_
      refine gfrom [(6, .bool _)] ⟨rfl, trivial⟩ fun σ => ?_
      refine gret fun w1 hM => ?_
      refine ⟨_, res1 rfl (rt (v := .bool _) rfl), ?_⟩
      first | exact ⟨by rw [hE5]; simp, hM.low⟩ | exact ⟨rfl, hM.low⟩
end Go.Proofs.Ytbaojdiccikbiaa
