/- walks, printed by program -/
import Derived.Test.YtbaojdiccikbiaaThlA
namespace Go.Proofs.Ytbaojdiccikbiaa
open Go.RowKit Go.Cf
set_option maxRecDepth 10000

theorem eq27 (a0 b0 : Int) (a1 b1 : Int) (w : World) : (binOp .eql 27 (.agg #[.int .i64 a0, .int .i64 a1]) (.agg #[.int .i64 b0, .int .i64 b1])).run Try.prog w = .ok (.bool ((decide (a0 = b0) && decide (a1 = b1)))) w := by
  simp [run_eql_struct, run_equalIn_agg, Try.underlying27, Try.stoodInHeld27, Program.fieldsOf, go_sem]
  (repeat' split) <;> simp_all

theorem sameInts_n (w : World) (A B : Option Addr) (c c' : Nat) (l m : List Int) (hA : Rdl w 0 1 intCells A l) (hB : Rdl w 0 1 intCells B m) (hl : l.length ≤ maxLen) (n : Nat) (hn : n = m.length) :
    Calls Try.prog 31 #[.slice A l.length c, .slice B n c'] w fun e w' => e = .returned (.bool (decide (l = m))) ∧ Below w.heap.size w w' := by
  subst hn; exact sameInts_any w A B c c' l m hA hB hl
set_option maxHeartbeats 2000000 in
theorem law12_any (w : World) (B : Option Addr) (d : Nat) (text : List ByteArray) (ht : Rdl w 0 1 strCells B text) (htb : SB B text.length d 16) (E : Option Addr) (ec : Nat) (es : List EvC) (he : EvsR w 0 E es) (hem : es.length ≤ maxLen) (hec : es.length ≤ ec) :
    Calls Try.prog 8 #[.slice B text.length d, .slice E es.length ec] w fun e w' => e = .returned (.bool true) ∧ Below w.heap.size w w' := by
  have hmx : maxLen = 9223372036854775807 := rfl
  have htc := htb.len
  have htm := htb.max
  refine gcalls Try.func8 rfl Try.ntmps8 (Nat.le_of_ble_eq_true rfl) ?_
  refine gfrom [(0, .slice _ _ _), (1, .slice _ _ _)] ⟨rfl, rfl, trivial⟩ fun σ => ?_
  refine gseq fun N1 hN1 => ?_
  refine greg ?_
  refine gop (y_assign (v := .bool _) rfl) rfl rfl rfl ?_
  refine gops_nil ?_
  refine hN1 _ _ ?_
  refine gfrom [(0, .slice _ _ _), (1, .slice _ _ _)] ⟨rfl, rfl, trivial⟩ fun σ => ?_
  refine gseq fun N2 hN2 => ?_
  refine greg ?_
  refine gop (y_move (v := .slice _ _ _) rfl) rfl rfl rfl ?_
  refine gop (y_move (v := .slice _ _ _) rfl) rfl rfl rfl ?_
  refine gop_new (fun lo ws v => ∃ v1 v2, v = .tuple #[v1, v2, fv (runV text (evs es)).1] ∧ NewL 5 thrCells (runV text (evs es)).2.1 lo ws v1 ∧ NewL 1 strCells (runV text (evs es)).2.2 lo ws v2) (e_call (vs := [.slice _ _ _, .slice _ _ _]) Try.func24 rfl (by kernel_rfl) rfl) (fun w hM => by have hc := run_any w B d text (ht.base hM) htb E ec es (EvsR.lasts.base he hM) hem; exact hc.mono fun _ _ ⟨v1, v2, h1, h2, h3, h4⟩ => ⟨_, h1, h2, v1, v2, rfl, h3, h4⟩) rfl rfl rfl ?_
  rintro _ lo21 ws21 hlo21 ⟨_, _, rfl, ⟨A21, c21, rfl, hcc21, hcm21, hr21⟩, ⟨B21, d21, rfl, hdc21, hdm21, hq21⟩⟩
  refine gop (y_move (v := .tuple #[.slice _ _ _, .slice _ _ _, .agg #[_, _]]) rfl) rfl rfl rfl ?_
  refine gop (y_extract (v := .slice _ _ _) rfl rfl) rfl rfl rfl ?_
  refine gop (y_extract (v := .slice _ _ _) rfl rfl) rfl rfl rfl ?_
  refine gop (y_extract (v := .agg #[_, _]) rfl rfl) rfl rfl rfl ?_
  refine gop_alloc (cs := #[.int .i64 0, .int .i64 0]) Try.zeroValue27 rfl rfl (fun b7 hb7 => ?_)
  refine gop (y_assign (v := .slice _ _ _) rfl) rfl rfl rfl ?_
  refine gop (y_assign (v := .slice _ _ _) rfl) rfl rfl rfl ?_
  refine gop_store 1 (v := .agg #[_, _]) (cs' := #[_, _]) rfl rfl Try.sizeOf27 rfl rfl rfl rfl (Nat.le_of_ble_eq_true rfl) rfl rfl ?_
  refine gops_nil ?_
  refine hN2 _ _ ?_
  refine gT [seal_ _ _, box b7 _] rfl ?_
  refine gfrom [(0, .slice _ _ _), (1, .slice _ _ _), (5, .slice _ _ _), (6, .slice _ _ _), (7, .pointer _)] ⟨rfl, rfl, rfl, rfl, rfl, trivial⟩ fun σ => ?_
  refine gseq fun N3 hN3 => ?_
  refine greg ?_
  refine gop (y_move (v := .slice _ _ _) rfl) rfl rfl rfl ?_
  refine gop (y_move (v := .slice _ _ _) rfl) rfl rfl rfl ?_
  refine gop_new (fun lo ws v => ∃ v1, v = .tuple #[v1, fv (runV text (evs es)).1] ∧ NewL 1 intCells (pendR text (evs es)) lo ws v1) (e_call (vs := [.slice _ _ _, .slice _ _ _]) Try.func25 rfl (by kernel_rfl) rfl) (fun w hM => by have hc := pending_any w B d text (ht.base hM) htb E ec es (EvsR.lasts.base he hM) hem; exact hc.mono fun _ _ ⟨v1, h1, h2, h3⟩ => ⟨_, h1, h2, v1, rfl, h3⟩) rfl rfl rfl ?_
  rintro _ lo28 ws28 hlo28 ⟨_, rfl, A28, c28, rfl, hcc28, hcm28, hr28⟩
  refine gop (y_move (v := .tuple #[.slice _ _ _, .agg #[_, _]]) rfl) rfl rfl rfl ?_
  refine gop (y_extract (v := .slice _ _ _) rfl rfl) rfl rfl rfl ?_
  refine gop (y_extract (v := .agg #[_, _]) rfl rfl) rfl rfl rfl ?_
  refine gop_alloc (cs := #[.int .i64 0, .int .i64 0]) Try.zeroValue27 rfl rfl (fun b9 hb9 => ?_)
  refine gop (y_assign (v := .slice _ _ _) rfl) rfl rfl rfl ?_
  refine gop_store 3 (v := .agg #[_, _]) (cs' := #[_, _]) rfl rfl Try.sizeOf27 rfl rfl rfl rfl (Nat.le_of_ble_eq_true rfl) rfl rfl ?_
  refine gops_nil ?_
  refine hN3 _ _ ?_
  refine gT [seal_ _ _, box b7 _, seal_ _ _, box b9 _] rfl ?_
  refine gfrom [(0, .slice _ _ _), (1, .slice _ _ _), (5, .slice _ _ _), (6, .slice _ _ _), (7, .pointer _), (8, .slice _ _ _), (9, .pointer _)] ⟨rfl, rfl, rfl, rfl, rfl, rfl, rfl, trivial⟩ fun σ => ?_
  refine gseq fun N4 hN4 => ?_
  refine greg ?_
  refine gop (y_move (v := .slice _ _ _) rfl) rfl rfl rfl ?_
  refine gop (y_move (v := .slice _ _ _) rfl) rfl rfl rfl ?_
  refine gop_new (fun lo ws v => ∃ v1, v = .tuple #[v1, fv (runV text (evs es)).1] ∧ NewL 1 intCells (loadR text (evs es)) lo ws v1) (e_call (vs := [.slice _ _ _, .slice _ _ _]) Try.func26 rfl (by kernel_rfl) rfl) (fun w hM => by have hc := load_any w B d text (ht.base hM) htb E ec es (EvsR.lasts.base he hM) hem; exact hc.mono fun _ _ ⟨v1, h1, h2, h3⟩ => ⟨_, h1, h2, v1, rfl, h3⟩) rfl rfl rfl ?_
  rintro _ lo34 ws34 hlo34 ⟨_, rfl, A34, c34, rfl, hcc34, hcm34, hr34⟩
  refine gop (y_move (v := .tuple #[.slice _ _ _, .agg #[_, _]]) rfl) rfl rfl rfl ?_
  refine gop (y_extract (v := .slice _ _ _) rfl rfl) rfl rfl rfl ?_
  refine gop (y_extract (v := .agg #[_, _]) rfl rfl) rfl rfl rfl ?_
  refine gop_alloc (cs := #[.int .i64 0, .int .i64 0]) Try.zeroValue27 rfl rfl (fun b11 hb11 => ?_)
  refine gop (y_assign (v := .slice _ _ _) rfl) rfl rfl rfl ?_
  refine gop_store 5 (v := .agg #[_, _]) (cs' := #[_, _]) rfl rfl Try.sizeOf27 rfl rfl rfl rfl (Nat.le_of_ble_eq_true rfl) rfl rfl ?_
  refine gops_nil ?_
  refine hN4 _ _ ?_
  refine gT [seal_ _ _, box b7 _, seal_ _ _, box b9 _, seal_ _ _, box b11 _] rfl ?_
  refine gfrom [(0, .slice _ _ _), (1, .slice _ _ _), (5, .slice _ _ _), (6, .slice _ _ _), (7, .pointer _), (8, .slice _ _ _), (9, .pointer _), (10, .slice _ _ _), (11, .pointer _)] ⟨rfl, rfl, rfl, rfl, rfl, rfl, rfl, rfl, rfl, trivial⟩ fun σ => ?_
  refine gseq fun N5 hN5 => ?_
  refine gseq fun N6 hN6 => ?_
  refine greg ?_
  refine gop_pure (e_call (vs := []) Try.func27 rfl (by kernel_rfl) rfl) (fun w hM => threadsExample_any w) rfl rfl rfl ?_
  refine gop (y_not rfl) rfl rfl rfl ?_
  refine gops_nil ?_
  refine hN6 _ _ ?_
  refine gfrom [(0, .slice _ _ _), (1, .slice _ _ _), (5, .slice _ _ _), (6, .slice _ _ _), (7, .pointer _), (8, .slice _ _ _), (9, .pointer _), (10, .slice _ _ _), (11, .pointer _), (38, .bool _)] ⟨rfl, rfl, rfl, rfl, rfl, rfl, rfl, rfl, rfl, rfl, trivial⟩ fun σ => ?_
  refine gcond (b := _) rfl (fun hc38 => ?_) (fun hc38 => ?_)
  · -- slot 38 t
    simp at hc38
  · -- slot 38 f
    replace hc38 := not_f hc38
    refine gskip ?_
    refine hN5 _ _ ?_
    refine gfrom [(0, .slice _ _ _), (1, .slice _ _ _), (5, .slice _ _ _), (6, .slice _ _ _), (7, .pointer _), (8, .slice _ _ _), (9, .pointer _), (10, .slice _ _ _), (11, .pointer _)] ⟨rfl, rfl, rfl, rfl, rfl, rfl, rfl, rfl, rfl, trivial⟩ fun σ => ?_
    refine gseq fun N7 hN7 => ?_
    refine greg ?_
    refine gop (y_move (v := .slice _ _ _) rfl) rfl rfl rfl ?_
    refine gop (y_move (v := .slice _ _ _) rfl) rfl rfl rfl ?_
    refine gop_new (fun lo ws v => ∃ A1 c1 A2 c2, v = .tuple #[.slice A1 (runV text (evs es)).2.1.length c1, .slice A2 (runV text (evs es)).2.2.length c2, fv (runV text (evs es)).1] ∧ (runV text (evs es)).2.1.length ≤ maxLen ∧ (runV text (evs es)).2.2.length ≤ maxLen ∧ (∀ w1, (seal_ lo ws).ok w1 → Rdl w1 0 5 thrCells A1 (runV text (evs es)).2.1) ∧ (∀ w1, Rdl w1 0 1 strCells B text → (seal_ lo ws).ok w1 → Rdl w1 0 1 strCells A2 (runV text (evs es)).2.2)) (e_call (vs := [.slice _ _ _, .slice _ _ _]) Try.func28 rfl (by kernel_rfl) rfl) (fun w hM => by have hc := replay_any w B d text (ht.base hM) htb E ec es (EvsR.lasts.base he hM) hem; exact hc.mono fun _ _ ⟨A1, c1, A2, c2, h1, h2, h3⟩ => ⟨_, h1, h2, A1, c1, A2, c2, rfl, h3⟩) rfl rfl rfl ?_
    rintro _ lo42 ws42 hlo42 ⟨A42, c42, B42, d42, rfl, hm42, hn42, hr42, hq42⟩
    refine gop (y_move (v := .tuple #[.slice _ _ _, .slice _ _ _, .agg #[_, _]]) rfl) rfl rfl rfl ?_
    refine gop (y_extract (v := .slice _ _ _) rfl rfl) rfl rfl rfl ?_
    refine gop (y_extract (v := .slice _ _ _) rfl rfl) rfl rfl rfl ?_
    refine gop (y_extract (v := .agg #[_, _]) rfl rfl) rfl rfl rfl ?_
    refine gop_alloc (cs := #[.int .i64 0, .int .i64 0]) Try.zeroValue27 rfl rfl (fun b14 hb14 => ?_)
    refine gop (y_assign (v := .slice _ _ _) rfl) rfl rfl rfl ?_
    refine gop (y_assign (v := .slice _ _ _) rfl) rfl rfl rfl ?_
    refine gop_store 7 (v := .agg #[_, _]) (cs' := #[_, _]) rfl rfl Try.sizeOf27 rfl rfl rfl rfl (Nat.le_of_ble_eq_true rfl) rfl rfl ?_
    refine gops_nil ?_
    refine hN7 _ _ ?_
    refine gT [seal_ _ _, box b7 _, seal_ _ _, box b9 _, seal_ _ _, box b11 _, seal_ _ _, box b14 _] rfl ?_
    refine gfrom [(5, .slice _ _ _), (6, .slice _ _ _), (7, .pointer _), (8, .slice _ _ _), (9, .pointer _), (10, .slice _ _ _), (11, .pointer _), (12, .slice _ _ _), (13, .slice _ _ _), (14, .pointer _)] ⟨rfl, rfl, rfl, rfl, rfl, rfl, rfl, rfl, rfl, rfl, trivial⟩ fun σ => ?_
    refine gseq fun N8 hN8 => ?_
    refine gseq fun N9 hN9 => ?_
    refine greg ?_
    refine gop (y_fieldAddr_box fa27_0 rfl) rfl rfl rfl ?_
    refine gop (y_load Try.isAgg3 rfl (cell_box 7 rfl rfl)) rfl rfl rfl ?_
    refine gop (y_neq rfl rfl) rfl rfl rfl ?_
    refine gops_nil ?_
    refine hN9 _ _ ?_
    refine gfrom [(5, .slice _ _ _), (6, .slice _ _ _), (7, .pointer _), (8, .slice _ _ _), (9, .pointer _), (10, .slice _ _ _), (11, .pointer _), (12, .slice _ _ _), (13, .slice _ _ _), (14, .pointer _), (48, .bool _)] ⟨rfl, rfl, rfl, rfl, rfl, rfl, rfl, rfl, rfl, rfl, rfl, trivial⟩ fun σ => ?_
    refine gcond (b := _) rfl (fun hc48 => ?_) (fun hc48 => ?_)
    · -- slot 48 t
      replace hc48 := of_decide_eq_true hc48
      have hne : (runV text (evs es)).1 ≠ ⟨0, 0⟩ := fun h => hc48 (by rw [h])
      have hbad := runV_bad hne
      obtain ⟨hld, hpd⟩ := loadR_bad hne
      refine gseq fun N10 hN10 => ?_
      refine greg ?_
      refine gop (y_loads (cs := [_, _]) Try.isAgg27 Try.sizeOf27 rfl rfl (cells_box 1 rfl)) rfl rfl rfl ?_
      refine gop (y_loads (cs := [_, _]) Try.isAgg27 Try.sizeOf27 rfl rfl (cells_box 7 rfl)) rfl rfl rfl ?_
      refine gop (y_bin (vx := .agg #[_, _]) (vy := .agg #[_, _]) rfl rfl (fun w => eg27 _ _ _ _ _ w) (fun w => eq27 _ _ _ _ w)) rfl rfl rfl ?_
      refine gop (y_move (v := .bool _) rfl) rfl rfl rfl ?_
      refine gop_if (want := true) rfl rfl rfl rfl rfl rfl (fun hg52 => ?_) (fun hg52 => ?_)
      · -- guard 52 on
        have hg52d := hg52
        refine gop (y_bare (y_loads (cs := [_, _]) Try.isAgg27 Try.sizeOf27 rfl rfl (cells_box 3 rfl))) rfl rfl rfl ?_
        refine gop_on rfl rfl rfl rfl hg52 ?_
        refine gop (y_bare (y_loads (cs := [_, _]) Try.isAgg27 Try.sizeOf27 rfl rfl (cells_box 7 rfl))) rfl rfl rfl ?_
        refine gop_on rfl rfl rfl rfl hg52 ?_
        refine gop (y_bare (y_bin (vx := .agg #[_, _]) (vy := .agg #[_, _]) rfl rfl (fun w => eg27 _ _ _ _ _ w) (fun w => eq27 _ _ _ _ w))) rfl rfl rfl ?_
        refine gop (y_pick_t (v := .bool _) rfl hg52 rfl) rfl rfl rfl ?_
        refine gop (y_move (v := .bool _) rfl) rfl rfl rfl ?_
        refine gop_if (want := true) rfl rfl rfl rfl rfl rfl (fun hg57 => ?_) (fun hg57 => ?_)
        · -- guard 57 on
          have hg57d := hg57
          refine gop (y_bare (y_loads (cs := [_, _]) Try.isAgg27 Try.sizeOf27 rfl rfl (cells_box 5 rfl))) rfl rfl rfl ?_
          refine gop_on rfl rfl rfl rfl hg57 ?_
          refine gop (y_bare (y_loads (cs := [_, _]) Try.isAgg27 Try.sizeOf27 rfl rfl (cells_box 7 rfl))) rfl rfl rfl ?_
          refine gop_on rfl rfl rfl rfl hg57 ?_
          refine gop (y_bare (y_bin (vx := .agg #[_, _]) (vy := .agg #[_, _]) rfl rfl (fun w => eg27 _ _ _ _ _ w) (fun w => eq27 _ _ _ _ w))) rfl rfl rfl ?_
          refine gop (y_pick_t (v := .bool _) rfl hg57 rfl) rfl rfl rfl ?_
          refine gop (y_move (v := .bool _) rfl) rfl rfl rfl ?_
          refine gop_if (want := true) rfl rfl rfl rfl rfl rfl (fun hg62 => ?_) (fun hg62 => ?_)
          · -- guard 62 on
            have hg62d := hg62
            refine gop (y_bare (y_move (v := .slice _ _ _) rfl)) rfl rfl rfl ?_
            refine gop_on rfl rfl rfl rfl hg62 ?_
            refine gop (y_bare (y_len Try.underlying55 rfl)) rfl rfl rfl ?_
            refine gop_on rfl rfl rfl rfl hg62 ?_
            refine gop (y_bare (y_eql rfl rfl)) rfl rfl rfl ?_
            refine gop (y_pick_t (v := .bool _) rfl hg62 rfl) rfl rfl rfl ?_
            refine gop (y_move (v := .bool _) rfl) rfl rfl rfl ?_
            refine gop_if (want := true) rfl rfl rfl rfl rfl rfl (fun hg67 => ?_) (fun hg67 => ?_)
            · -- guard 67 on
              have hg67d := of_decide_eq_true hg67
              refine gop (y_bare (y_move (v := .slice _ _ _) rfl)) rfl rfl rfl ?_
              refine gop_on rfl rfl rfl rfl hg67 ?_
              refine gop (y_bare (y_len Try.underlying41 rfl)) rfl rfl rfl ?_
              refine gop_on rfl rfl rfl rfl hg67 ?_
              refine gop (y_bare (y_eql rfl rfl)) rfl rfl rfl ?_
              refine gop (y_pick_t (v := .bool _) rfl hg67 rfl) rfl rfl rfl ?_
              refine gop (y_move (v := .bool _) rfl) rfl rfl rfl ?_
              refine gop_if (want := true) rfl rfl rfl rfl rfl rfl (fun hg72 => ?_) (fun hg72 => ?_)
              · -- guard 72 on
                have hg72d := of_decide_eq_true hg72
                refine gop (y_bare (y_move (v := .slice _ _ _) rfl)) rfl rfl rfl ?_
                refine gop_on rfl rfl rfl rfl hg72 ?_
                refine gop (y_bare (y_len Try.underlying30 rfl)) rfl rfl rfl ?_
                refine gop_on rfl rfl rfl rfl hg72 ?_
                refine gop (y_bare (y_eql rfl rfl)) rfl rfl rfl ?_
                refine gop (y_pick_t (v := .bool _) rfl hg72 rfl) rfl rfl rfl ?_
                refine gop (y_move (v := .bool _) rfl) rfl rfl rfl ?_
                refine gop_if (want := true) rfl rfl rfl rfl rfl rfl (fun hg77 => ?_) (fun hg77 => ?_)
                · -- guard 77 on
                  have hg77d := of_decide_eq_true hg77
                  refine gop (y_bare (y_move (v := .slice _ _ _) rfl)) rfl rfl rfl ?_
                  refine gop_on rfl rfl rfl rfl hg77 ?_
                  refine gop (y_bare (y_len Try.underlying30 rfl)) rfl rfl rfl ?_
                  refine gop_on rfl rfl rfl rfl hg77 ?_
                  refine gop (y_bare (y_eql rfl rfl)) rfl rfl rfl ?_
                  refine gop (y_pick_t (v := .bool _) rfl hg77 rfl) rfl rfl rfl ?_
                  refine gop (y_assign (v := .bool _) rfl) rfl rfl rfl ?_
                  refine gops_nil ?_
                  refine hN10 _ _ ?_
                  refine gfrom [(4, .bool _)] ⟨rfl, trivial⟩ fun σ => ?_
                  refine gret fun w1 hM => ?_
                  refine ⟨_, res1 rfl (rt (v := .bool _) rfl), ?_⟩
                  exact ⟨by simp [hld], hM.low⟩
                · -- guard 77 off
                  simp [hpd] at hg77
              · -- guard 72 off
                simp [hbad] at hg72
            · -- guard 67 off
              simp [hbad] at hg67
          · -- guard 62 off
            simp at hg62
        · -- guard 57 off
          simp at hg57
      · -- guard 52 off
        simp at hg52
    · -- slot 48 f
      replace hc48 := Decidable.not_not.1 (of_decide_eq_false hc48)
      have hz := runV_code hc48
      obtain ⟨_, _, _, hri⟩ := runV_ok hz
      have hfw := hri.few
      have hln := hri.len
      refine gskip ?_
      refine hN8 _ _ ?_
      refine gfrom [(5, .slice _ _ _), (6, .slice _ _ _), (7, .pointer _), (8, .slice _ _ _), (9, .pointer _), (10, .slice _ _ _), (11, .pointer _), (12, .slice _ _ _), (13, .slice _ _ _)] ⟨rfl, rfl, rfl, rfl, rfl, rfl, rfl, rfl, rfl, trivial⟩ fun σ => ?_
      refine gseq fun N11 hN11 => ?_
      refine greg ?_
      refine gop (y_move (v := .slice _ _ _) rfl) rfl rfl rfl ?_
      refine gop (y_len Try.underlying41 rfl) rfl rfl rfl ?_
      refine gop_make (f := intCells) (bytes := 8) (z := .int .i64 0) ((0 : Int)) Try.underlying30 (by kernel_rfl) rfl rfl rfl (k := (runV text (evs es)).2.2.length) rfl rfl (by omega) (by omega) rfl (fun b84 hb84 => ?_)
      refine gop (y_assign (v := .slice (some _) _ _) rfl) rfl rfl rfl ?_
      refine gops_nil ?_
      refine hN11 _ _ ?_
      refine gT [seal_ _ _, box b7 _, seal_ _ _, box b9 _, seal_ _ _, box b11 _, seal_ _ _, box b14 _, rowl _ _ _ _ _ _] rfl ?_
      refine gfrom [(5, .slice _ _ _), (6, .slice _ _ _), (7, .pointer _), (8, .slice _ _ _), (9, .pointer _), (10, .slice _ _ _), (11, .pointer _), (12, .slice _ _ _), (13, .slice _ _ _), (15, .slice (some _) _ _)] ⟨rfl, rfl, rfl, rfl, rfl, rfl, rfl, rfl, rfl, rfl, trivial⟩ fun σ => ?_
      refine gseq fun N12 hN12 => ?_
      refine greg ?_
      refine gop (y_assign (v := .slice _ _ _) rfl) rfl rfl rfl ?_
      refine gops_nil ?_
      refine hN12 _ _ ?_
      refine gfrom [(5, .slice _ _ _), (6, .slice _ _ _), (7, .pointer _), (8, .slice _ _ _), (9, .pointer _), (10, .slice _ _ _), (11, .pointer _), (12, .slice _ _ _), (13, .slice _ _ _), (15, .slice (some _) _ _), (16, .slice _ _ _)] ⟨rfl, rfl, rfl, rfl, rfl, rfl, rfl, rfl, rfl, rfl, rfl, trivial⟩ fun σ => ?_
      refine gseq fun N13 hN13 => ?_
      refine gseq fun N14 hN14 => ?_
      refine greg ?_
      refine gop (y_assign (v := .int _ _) rfl) rfl rfl rfl ?_
      refine gops_nil ?_
      refine hN14 _ _ ?_
      refine gfrom [(5, .slice _ _ _), (6, .slice _ _ _), (7, .pointer _), (8, .slice _ _ _), (9, .pointer _), (10, .slice _ _ _), (11, .pointer _), (12, .slice _ _ _), (13, .slice _ _ _), (15, .slice (some _) _ _), (16, .slice _ _ _), (17, .int _ _)] ⟨rfl, rfl, rfl, rfl, rfl, rfl, rfl, rfl, rfl, rfl, rfl, rfl, trivial⟩ fun σ => ?_
      refine gblock ?_
      refine gnilrow intCells 3 1 ?_
      refine gfrom2 [(16, .slice _ _ _), (17, .int _ _)] [(5, .slice _ _ _), (6, .slice _ _ _), (7, .pointer _), (8, .slice _ _ _), (9, .pointer _), (10, .slice _ _ _), (11, .pointer _), (12, .slice _ _ _), (13, .slice _ _ _), (15, .slice (some _) _ _)] ⟨rfl, rfl, trivial⟩ ⟨rfl, rfl, rfl, rfl, rfl, rfl, rfl, rfl, rfl, rfl, trivial⟩ fun σ => ?_
      refine gloop2 (G := Nat × Option Addr × Nat) (fun (k, Av, cv) => k ≤ (runV text (evs es)).2.1.length) (fun (k, Av, cv) => (runV text (evs es)).2.1.length - k) (fun (k, Av, cv) => [(16, .slice Av (pendK (runV text (evs es)).2.1 k).length cv), (17, .int .i64 (k : Int))]) (fun (k, Av, cv) => [(8, rowl intCells w.heap.size 3 1 (.slice (some ⟨b84, 0, none⟩) (runV text (evs es)).2.2.length (runV text (evs es)).2.2.length) (loadK (runV text (evs es)).2.1 (runV text (evs es)).2.2.length k)), (9, rowl intCells w.heap.size 3 1 (.slice Av (pendK (runV text (evs es)).2.1 k).length cv) (pendK (runV text (evs es)).2.1 k))]) ((0, none, 0)) ?h0 ⟨rfl, rfl, trivial⟩ ⟨rfl, rfl, rfl, rfl, rfl, rfl, rfl, rfl, rfl, rfl, trivial⟩ rfl ?round
      case h0 => exact Nat.zero_le _
      case round =>
        rintro ⟨k, Av, cv⟩ hφ σ
        have hk : k ≤ (runV text (evs es)).2.1.length := hφ
        refine gT [seal_ _ _, box b7 _, seal_ _ _, box b9 _, seal_ _ _, box b11 _, seal_ _ _, box b14 _, rowl _ _ _ _ _ _, rowl _ _ _ _ _ _] rfl ?_
        refine gseq fun N15 hN15 => ?_
        refine gseq fun N16 hN16 => ?_
        refine greg ?_
        refine gop (y_move (v := .int _ _) rfl) rfl rfl rfl ?_
        refine gop (y_move (v := .slice _ _ _) rfl) rfl rfl rfl ?_
        refine gop (y_len Try.underlying55 rfl) rfl rfl rfl ?_
        refine gop (y_lss rfl rfl) rfl rfl rfl ?_
        refine gops_nil ?_
        refine hN16 _ _ ?_
        refine gfrom [(5, .slice _ _ _), (6, .slice _ _ _), (7, .pointer _), (8, .slice _ _ _), (9, .pointer _), (10, .slice _ _ _), (11, .pointer _), (12, .slice _ _ _), (13, .slice _ _ _), (15, .slice (some _) _ _), (16, .slice Av _ cv), (17, .int _ _), (88, .bool _)] ⟨rfl, rfl, rfl, rfl, rfl, rfl, rfl, rfl, rfl, rfl, rfl, rfl, rfl, trivial⟩ fun σ => ?_
        refine gcond (b := _) rfl (fun hc88 => ?_) (fun hc88 => ?_)
        · -- slot 88 t
          replace hc88 := of_decide_eq_true hc88
          have hk1 : k < (runV text (evs es)).2.1.length := by omega
          refine g_fact (fun w hM => some_reads 6 hM rfl hr42 hk1) ?_
          rintro ⟨ad, rfl⟩
          have hpl := pendK_len (runV text (evs es)).2.1 k
          have hsu := loadK_succ hk1 (runV text (evs es)).2.2.length
          obtain ⟨hll, hlb⟩ := loadK_bd (runV text (evs es)).2.1 (runV text (evs es)).2.2.length k hk
          refine gskip ?_
          refine hN15 _ _ ?_
          refine gfrom [(5, .slice _ _ _), (6, .slice _ _ _), (7, .pointer _), (8, .slice _ _ _), (9, .pointer _), (10, .slice _ _ _), (11, .pointer _), (12, .slice _ _ _), (13, .slice _ _ _), (15, .slice (some _) _ _), (16, .slice Av _ cv), (17, .int _ _)] ⟨rfl, rfl, rfl, rfl, rfl, rfl, rfl, rfl, rfl, rfl, rfl, rfl, trivial⟩ fun σ => ?_
          refine gseq fun N17 hN17 => ?_
          refine gblock ?_
          refine gseq fun N18 hN18 => ?_
          refine gseq fun N19 hN19 => ?_
          refine greg ?_
          refine gop (y_move (v := .slice _ _ _) rfl) rfl rfl rfl ?_
          refine gop (y_move (v := .int _ _) rfl) rfl rfl rfl ?_
          refine gop (y_indexAddr Try.underlying55 Try.sizeOf60 rfl rfl rfl (by omega) (by omega)) rfl rfl rfl ?_
          refine gop (y_fieldAddr_add fa60_4 rfl) rfl rfl rfl ?_
          refine gop (y_load Try.isAgg4 rfl (cells_reads 6 rfl hr42 hk1 4 _ rfl)) rfl rfl rfl ?_
          refine gops_nil ?_
          refine hN19 _ _ ?_
          refine gfrom [(5, .slice _ _ _), (6, .slice _ _ _), (7, .pointer _), (8, .slice _ _ _), (9, .pointer _), (10, .slice _ _ _), (11, .pointer _), (12, .slice _ _ _), (13, .slice _ _ _), (15, .slice (some _) _ _), (16, .slice Av _ cv), (17, .int _ _), (95, .bool _)] ⟨rfl, rfl, rfl, rfl, rfl, rfl, rfl, rfl, rfl, rfl, rfl, rfl, rfl, trivial⟩ fun σ => ?_
          refine gcond (b := _) rfl (fun hc95 => ?_) (fun hc95 => ?_)
          · -- slot 95 t
            rw [addT, if_neg (by rintro ⟨h1, _⟩; rw [hc95] at h1; cases h1)] at hsu
            refine gexit ?_
            refine hN17 _ _ ?_
            refine gfrom [(5, .slice _ _ _), (6, .slice _ _ _), (7, .pointer _), (8, .slice _ _ _), (9, .pointer _), (10, .slice _ _ _), (11, .pointer _), (12, .slice _ _ _), (13, .slice _ _ _), (15, .slice (some _) _ _), (16, .slice Av _ cv), (17, .int _ _)] ⟨rfl, rfl, rfl, rfl, rfl, rfl, rfl, rfl, rfl, rfl, rfl, rfl, trivial⟩ fun σ => ?_
            refine greg ?_
            refine gop (y_move (v := .int _ _) rfl) rfl rfl rfl ?_
            refine gop (y_add rfl rfl ⟨by omega, by omega⟩) rfl rfl rfl ?_
            refine gop (y_assign (v := .int _ _) rfl) rfl rfl rfl ?_
            refine gops_nil ?_
            rw [← pendK_no hk1 hc95, ← hsu]
            refine gnext2 ((k + 1, Av, cv)) (by show _ - (k + 1) < _ - k; omega) (show k + 1 ≤ _ by omega) ⟨(by rw [pendK_no hk1 hc95]; rfl), rfl, trivial⟩ ⟨rfl, rfl, rfl, rfl, rfl, rfl, rfl, rfl, rfl, rfl, trivial⟩ ⟨_, rfl⟩
          · -- slot 95 f
            refine gskip ?_
            refine hN18 _ _ ?_
            refine gfrom [(5, .slice _ _ _), (6, .slice _ _ _), (7, .pointer _), (8, .slice _ _ _), (9, .pointer _), (10, .slice _ _ _), (11, .pointer _), (12, .slice _ _ _), (13, .slice _ _ _), (15, .slice (some _) _ _), (16, .slice Av _ cv), (17, .int _ _)] ⟨rfl, rfl, rfl, rfl, rfl, rfl, rfl, rfl, rfl, rfl, rfl, rfl, trivial⟩ fun σ => ?_
            refine gseq fun N20 hN20 => ?_
            refine greg ?_
            refine gop (y_move (v := .slice Av _ cv) rfl) rfl rfl rfl ?_
            refine gop (y_move (v := .int _ _) rfl) rfl rfl rfl ?_
            refine gop_lit (vs := [.int _ _]) (cells := #[_]) Try.underlying30 Try.sizeOf3 Try.zeroValue3 rfl (by decide) (by decide) rfl rfl rfl rfl (fun b98 hb98 => ?_)
            refine gop_append 9 (f := intCells) (l2 := [(k : Int)]) Try.underlying30 el3 wide_int (v := .slice Av _ cv) rfl rfl rfl rfl (fun h => by cases h) (by simp [maxLen]; omega) (by simp; omega) (src_box 10 rfl rfl) rfl (fun v99 => ?_)
            refine gops_fact (fun w hM => own_form (hM.own 9 rfl)) ?_
            rintro ⟨A99, c99, rfl, hc99, hm99⟩
            refine gop (y_assign (v := .slice A99 _ c99) rfl) rfl rfl rfl ?_
            refine gops_nil ?_
            refine hN20 _ _ ?_
            refine gT [seal_ _ _, box b7 _, seal_ _ _, box b9 _, seal_ _ _, box b11 _, seal_ _ _, box b14 _, rowl _ _ _ _ _ _, rowl _ _ _ _ _ _, box b98 _] rfl ?_
            refine gfrom [(5, .slice _ _ _), (6, .slice _ _ _), (7, .pointer _), (8, .slice _ _ _), (9, .pointer _), (10, .slice _ _ _), (11, .pointer _), (12, .slice _ _ _), (13, .slice _ _ _), (15, .slice (some _) _ _), (16, .slice A99 _ c99), (17, .int _ _)] ⟨rfl, rfl, rfl, rfl, rfl, rfl, rfl, rfl, rfl, rfl, rfl, rfl, trivial⟩ fun σ => ?_
            refine gseq fun N21 hN21 => ?_
            refine greg ?_
            refine gop (y_move (v := .slice _ _ _) rfl) rfl rfl rfl ?_
            refine gop (y_move (v := .int _ _) rfl) rfl rfl rfl ?_
            refine gop (y_indexAddr Try.underlying55 Try.sizeOf60 rfl rfl rfl (by omega) (by omega)) rfl rfl rfl ?_
            refine gop (y_fieldAddr_add fa60_3 rfl) rfl rfl rfl ?_
            refine gop (y_load Try.isAgg4 rfl (cells_reads 6 rfl hr42 hk1 3 _ rfl)) rfl rfl rfl ?_
            refine gop (y_not rfl) rfl rfl rfl ?_
            refine gops_nil ?_
            refine hN21 _ _ ?_
            refine gfrom [(5, .slice _ _ _), (6, .slice _ _ _), (7, .pointer _), (8, .slice _ _ _), (9, .pointer _), (10, .slice _ _ _), (11, .pointer _), (12, .slice _ _ _), (13, .slice _ _ _), (15, .slice (some _) _ _), (16, .slice A99 _ c99), (17, .int _ _), (105, .bool _)] ⟨rfl, rfl, rfl, rfl, rfl, rfl, rfl, rfl, rfl, rfl, rfl, rfl, rfl, trivial⟩ fun σ => ?_
            refine gcond (b := _) rfl (fun hc105 => ?_) (fun hc105 => ?_)
            · -- slot 105 t
              replace hc105 := not_t hc105
              have hl0 := hri.lo _ (List.getElem_mem hk1)
              have hl1 := hri.cur _ (List.getElem_mem hk1) hc105
              have hln2 : (runV text (evs es)).2.1[k].line.toNat < (loadK (runV text (evs es)).2.1 (runV text (evs es)).2.2.length k).length := by rw [hll]; omega
              obtain ⟨y, hy⟩ : ∃ y, (loadK (runV text (evs es)).2.1 (runV text (evs es)).2.2.length k)[(runV text (evs es)).2.1[k].line.toNat]? = some y := ⟨_, List.getElem?_eq_getElem hln2⟩
              have hyb := hlb y (List.mem_of_getElem? hy)
              rw [addT, if_pos ⟨hc95, hc105⟩, hy] at hsu
              refine greg ?_
              refine gop (y_move (v := .slice (some _) _ _) rfl) rfl rfl rfl ?_
              refine gop (y_move (v := .slice _ _ _) rfl) rfl rfl rfl ?_
              refine gop (y_move (v := .int _ _) rfl) rfl rfl rfl ?_
              refine gop (y_indexAddr Try.underlying55 Try.sizeOf60 rfl rfl rfl (by omega) (by omega)) rfl rfl rfl ?_
              refine gop (y_fieldAddr_add fa60_1 rfl) rfl rfl rfl ?_
              refine gop (y_load Try.isAgg3 rfl (cells_reads 6 rfl hr42 hk1 1 _ rfl)) rfl rfl rfl ?_
              refine gop (y_indexAddr (m := (runV text (evs es)).2.1[k].line.toNat) Try.underlying30 Try.sizeOf3 rfl rfl (by omega) (by omega) (by omega)) rfl rfl rfl ?_
              refine gop (y_load Try.isAgg3 rfl (cells_rowl 8 (f := intCells) (l := loadK (runV text (evs es)).2.1 (runV text (evs es)).2.2.length k) rfl hll.symm (fun _ => rfl) hy 0 _ rfl)) rfl rfl rfl ?_
              refine gop (y_add rfl rfl ⟨by omega, by omega⟩) rfl rfl rfl ?_
              refine gop (y_indexAddr (m := (runV text (evs es)).2.1[k].line.toNat) Try.underlying30 Try.sizeOf3 rfl rfl (by omega) (by omega) (by omega)) rfl rfl rfl ?_
              refine gop_store_row 8 (f := intCells) (l := loadK (runV text (evs es)).2.1 (runV text (evs es)).2.2.length k) (k := (runV text (evs es)).2.1[k].line.toNat) (o := 0) (v := .int _ _) (a := y) (a' := y + 1) (fun _ => rfl) rfl rfl rfl Try.sizeOf3 rfl rfl rfl rfl hll.symm hy (Nat.le_of_ble_eq_true rfl) rfl rfl ?_
              refine gops_nil ?_
              refine hN17 _ _ ?_
              refine gT [seal_ _ _, box b7 _, seal_ _ _, box b9 _, seal_ _ _, box b11 _, seal_ _ _, box b14 _, rowl _ _ _ _ _ _, rowl _ _ _ _ _ _, box b98 _] rfl ?_
              refine gfrom [(5, .slice _ _ _), (6, .slice _ _ _), (7, .pointer _), (8, .slice _ _ _), (9, .pointer _), (10, .slice _ _ _), (11, .pointer _), (12, .slice _ _ _), (13, .slice _ _ _), (15, .slice (some _) _ _), (16, .slice A99 _ c99), (17, .int _ _)] ⟨rfl, rfl, rfl, rfl, rfl, rfl, rfl, rfl, rfl, rfl, rfl, rfl, trivial⟩ fun σ => ?_
              refine greg ?_
              refine gop (y_move (v := .int _ _) rfl) rfl rfl rfl ?_
              refine gop (y_add rfl rfl ⟨by omega, by omega⟩) rfl rfl rfl ?_
              refine gop (y_assign (v := .int _ _) rfl) rfl rfl rfl ?_
              refine gops_nil ?_
              rw [← pendK_yes hk1 hc95, show (loadK (runV text (evs es)).2.1 (runV text (evs es)).2.2.length k).set (runV text (evs es)).2.1[k].line.toNat (y + 1) = loadK (runV text (evs es)).2.1 (runV text (evs es)).2.2.length (k + 1) from by rw [hsu]; rfl]
              refine gnext2 ((k + 1, A99, c99)) (by show _ - (k + 1) < _ - k; omega) (show k + 1 ≤ _ by omega) ⟨(by rw [pendK_yes hk1 hc95]; rfl), rfl, trivial⟩ ⟨rfl, rfl, rfl, rfl, rfl, rfl, rfl, rfl, rfl, rfl, trivial⟩ ⟨_, rfl⟩
            · -- slot 105 f
              replace hc105 := not_f hc105
              rw [addT, if_neg (by rintro ⟨_, h1⟩; rw [hc105] at h1; cases h1)] at hsu
              refine gskip ?_
              refine hN17 _ _ ?_
              refine gfrom [(5, .slice _ _ _), (6, .slice _ _ _), (7, .pointer _), (8, .slice _ _ _), (9, .pointer _), (10, .slice _ _ _), (11, .pointer _), (12, .slice _ _ _), (13, .slice _ _ _), (15, .slice (some _) _ _), (16, .slice A99 _ c99), (17, .int _ _)] ⟨rfl, rfl, rfl, rfl, rfl, rfl, rfl, rfl, rfl, rfl, rfl, rfl, trivial⟩ fun σ => ?_
              refine greg ?_
              refine gop (y_move (v := .int _ _) rfl) rfl rfl rfl ?_
              refine gop (y_add rfl rfl ⟨by omega, by omega⟩) rfl rfl rfl ?_
              refine gop (y_assign (v := .int _ _) rfl) rfl rfl rfl ?_
              refine gops_nil ?_
              rw [← pendK_yes hk1 hc95, ← hsu]
              refine gnext2 ((k + 1, A99, c99)) (by show _ - (k + 1) < _ - k; omega) (show k + 1 ≤ _ by omega) ⟨(by rw [pendK_yes hk1 hc95]; rfl), rfl, trivial⟩ ⟨rfl, rfl, rfl, rfl, rfl, rfl, rfl, rfl, rfl, rfl, trivial⟩ ⟨_, rfl⟩
        · -- slot 88 f
          replace hc88 := of_decide_eq_false hc88
          have hkk : k = (runV text (evs es)).2.1.length := by omega
          refine gexit ?_
          refine hN13 _ _ ?_
          refine gfrom [(5, .slice _ _ _), (6, .slice _ _ _), (7, .pointer _), (8, .slice _ _ _), (9, .pointer _), (10, .slice _ _ _), (11, .pointer _), (12, .slice _ _ _), (13, .slice _ _ _), (15, .slice (some _) _ _), (16, .slice Av _ cv)] ⟨rfl, rfl, rfl, rfl, rfl, rfl, rfl, rfl, rfl, rfl, rfl, trivial⟩ fun σ => ?_
          refine gseq fun N22 hN22 => ?_
          refine greg ?_
          refine gop (y_fieldAddr_box fa27_0 rfl) rfl rfl rfl ?_
          refine gop (y_load Try.isAgg3 rfl (cell_box 1 rfl rfl)) rfl rfl rfl ?_
          refine gop (y_eql rfl rfl) rfl rfl rfl ?_
          refine gop (y_move (v := .bool _) rfl) rfl rfl rfl ?_
          refine gop_if (want := true) rfl rfl rfl rfl rfl rfl (fun hg119 => ?_) (fun hg119 => ?_)
          · -- guard 119 on
            have hg119d := of_decide_eq_true hg119
            refine gop (y_bare (y_fieldAddr_box fa27_0 rfl)) rfl rfl rfl ?_
            refine gop_on rfl rfl rfl rfl hg119 ?_
            refine gop (y_bare (y_load Try.isAgg3 rfl (cell_box 3 rfl rfl))) rfl rfl rfl ?_
            refine gop_on rfl rfl rfl rfl hg119 ?_
            refine gop (y_bare (y_eql rfl rfl)) rfl rfl rfl ?_
            refine gop (y_pick_t (v := .bool _) rfl hg119 rfl) rfl rfl rfl ?_
            refine gop (y_move (v := .bool _) rfl) rfl rfl rfl ?_
            refine gop_if (want := true) rfl rfl rfl rfl rfl rfl (fun hg124 => ?_) (fun hg124 => ?_)
            · -- guard 124 on
              have hg124d := of_decide_eq_true hg124
              refine gop (y_bare (y_fieldAddr_box fa27_0 rfl)) rfl rfl rfl ?_
              refine gop_on rfl rfl rfl rfl hg124 ?_
              refine gop (y_bare (y_load Try.isAgg3 rfl (cell_box 5 rfl rfl))) rfl rfl rfl ?_
              refine gop_on rfl rfl rfl rfl hg124 ?_
              refine gop (y_bare (y_eql rfl rfl)) rfl rfl rfl ?_
              refine gop (y_pick_t (v := .bool _) rfl hg124 rfl) rfl rfl rfl ?_
              refine gop (y_move (v := .bool _) rfl) rfl rfl rfl ?_
              refine gop_if (want := true) rfl rfl rfl rfl rfl rfl (fun hg129 => ?_) (fun hg129 => ?_)
              · -- guard 129 on
                have hg129d := of_decide_eq_true hg129
                refine gop (y_bare (y_move (v := .slice _ _ _) rfl)) rfl rfl rfl ?_
                refine gop_on rfl rfl rfl rfl hg129 ?_
                refine gop (y_bare (y_move (v := .slice _ _ _) rfl)) rfl rfl rfl ?_
                refine gop_on rfl rfl rfl rfl hg129 ?_
                refine gop_pure (e_call (vs := [.slice _ _ _, .slice _ _ _]) Try.func29 rfl (by kernel_rfl) rfl) (fun w hM => sameThreads_any w _ _ _ _ (runV text (evs es)).2.1 (runV text (evs es)).2.1 ((hr21.seal_ 0 rfl (Nat.le_refl _) hM).mono (Nat.zero_le _)) (hr42 w (hM.ok _ (List.mem_of_getElem? (i := 6) rfl))) hm42) rfl rfl rfl ?_
                refine gop (y_pick_t (v := .bool _) rfl hg129 rfl) rfl rfl rfl ?_
                refine gop (y_move (v := .bool _) rfl) rfl rfl rfl ?_
                refine gop_if (want := true) rfl rfl rfl rfl rfl rfl (fun hg134 => ?_) (fun hg134 => ?_)
                · -- guard 134 on
                  have hg134d := hg134
                  refine gop (y_bare (y_move (v := .slice _ _ _) rfl)) rfl rfl rfl ?_
                  refine gop_on rfl rfl rfl rfl hg134 ?_
                  refine gop (y_bare (y_move (v := .slice _ _ _) rfl)) rfl rfl rfl ?_
                  refine gop_on rfl rfl rfl rfl hg134 ?_
                  refine gop_pure (e_call (vs := [.slice _ _ _, .slice _ _ _]) Try.func30 rfl (by kernel_rfl) rfl) (fun w hM => equalStrings_any w _ _ _ _ (runV text (evs es)).2.2 (runV text (evs es)).2.2 ((hq21.seal_ 0 rfl (Nat.le_refl _) hM).mono (Nat.zero_le _)) (hq42 w (ht.base hM) (hM.ok _ (List.mem_of_getElem? (i := 6) rfl))) hn42) rfl rfl rfl ?_
                  refine gop (y_pick_t (v := .bool _) rfl hg134 rfl) rfl rfl rfl ?_
                  refine gop (y_move (v := .bool _) rfl) rfl rfl rfl ?_
                  refine gop_if (want := true) rfl rfl rfl rfl rfl rfl (fun hg139 => ?_) (fun hg139 => ?_)
                  · -- guard 139 on
                    have hg139d := hg139
                    refine gop (y_bare (y_move (v := .slice _ _ _) rfl)) rfl rfl rfl ?_
                    refine gop_on rfl rfl rfl rfl hg139 ?_
                    refine gop (y_bare (y_move (v := .slice Av _ cv) rfl)) rfl rfl rfl ?_
                    refine gop_on rfl rfl rfl rfl hg139 ?_
                    refine gop_pure (e_call (vs := [.slice _ _ _, .slice Av _ cv]) Try.func31 rfl (by kernel_rfl) rfl) (fun w hM => sameInts_any w _ _ _ _ (pendR text (evs es)) (pendK (runV text (evs es)).2.1 k) ((hr28.seal_ 2 rfl (Nat.le_refl _) hM).mono (Nat.zero_le _)) ((Rdl.of_own (f := intCells) (fun _ => rfl) (hM.own 9 rfl)).mono (Nat.zero_le _)) (by have := pendK_len (runV text (evs es)).2.1 (runV text (evs es)).2.1.length; show (pendK _ _).length ≤ _; omega)) rfl rfl rfl ?_
                    refine gop (y_pick_t (v := .bool _) rfl hg139 rfl) rfl rfl rfl ?_
                    refine gop (y_move (v := .bool _) rfl) rfl rfl rfl ?_
                    refine gop_if (want := true) rfl rfl rfl rfl rfl rfl (fun hg144 => ?_) (fun hg144 => ?_)
                    · -- guard 144 on
                      have hg144d := hg144
                      refine gop (y_bare (y_move (v := .slice _ _ _) rfl)) rfl rfl rfl ?_
                      refine gop_on rfl rfl rfl rfl hg144 ?_
                      refine gop (y_bare (y_move (v := .slice (some _) _ _) rfl)) rfl rfl rfl ?_
                      refine gop_on rfl rfl rfl rfl hg144 ?_
                      refine gop_pure (e_call (vs := [.slice _ _ _, .slice (some _) _ _]) Try.func31 rfl (by kernel_rfl) rfl) (fun w hM => sameInts_n w _ _ _ _ (loadR text (evs es)) (loadK (runV text (evs es)).2.1 (runV text (evs es)).2.2.length k) ((hr34.seal_ 4 rfl (Nat.le_refl _) hM).mono (Nat.zero_le _)) ((Rdl.of_own (f := intCells) (fun _ => rfl) (hM.own 8 rfl)).mono (Nat.zero_le _)) (by have := (loadK_bd (runV text (evs es)).2.1 (runV text (evs es)).2.2.length (runV text (evs es)).2.1.length (Nat.le_refl _)).1; show (loadK _ _ _).length ≤ _; omega) _ (loadK_bd (runV text (evs es)).2.1 (runV text (evs es)).2.2.length k hk).1.symm) rfl rfl rfl ?_
                      refine gop (y_pick_t (v := .bool _) rfl hg144 rfl) rfl rfl rfl ?_
                      refine gop (y_assign (v := .bool _) rfl) rfl rfl rfl ?_
                      refine gops_nil ?_
                      refine hN22 _ _ ?_
                      refine gfrom [(4, .bool _)] ⟨rfl, trivial⟩ fun σ => ?_
                      refine gret fun w1 hM => ?_
                      refine ⟨_, res1 rfl (rt (v := .bool _) rfl), ?_⟩
                      exact ⟨by simp [loadR, hkk], hM.low⟩
                    · -- guard 144 off
                      simp [pendR, hkk] at hg144
                  · -- guard 139 off
                    simp at hg139
                · -- guard 134 off
                  simp at hg134
              · -- guard 129 off
                exact (of_decide_eq_false hg129 (by rw [hz])).elim
            · -- guard 124 off
              exact (of_decide_eq_false hg124 (by rw [hz])).elim
          · -- guard 119 off
            exact (of_decide_eq_false hg119 (by rw [hz])).elim
end Go.Proofs.Ytbaojdiccikbiaa
