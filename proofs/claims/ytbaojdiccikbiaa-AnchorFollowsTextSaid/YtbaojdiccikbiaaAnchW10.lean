/- walks, printed by program -/
import Derived.Test.YtbaojdiccikbiaaAppA
import Derived.Test.YtbaojdiccikbiaaPatchD
namespace Go.Proofs.Ytbaojdiccikbiaa
open Go.RowKit Go.Cf
set_option maxRecDepth 10000



set_option maxHeartbeats 4000000 in
theorem law10_any (w : World) (A : Option Addr) (c : Nat) (hs : List HunkC) (hp : PatR w 0 A c hs) (B : Option Addr) (d : Nat) (text : List ByteArray) (ht : Rdl w 0 1 strCells B text) (htb : SB B text.length d 16) :
    Calls Try.prog 7 #[.agg #[.slice A hs.length c], .slice B text.length d] w fun e w' => e = .returned (.bool true) ∧ Below w.heap.size w w' := by
  have htc := htb.len
  have htm := htb.max
  have hmx : maxLen = 9223372036854775807 := rfl
  refine gcalls Try.func7 rfl Try.ntmps7 (Nat.le_of_ble_eq_true rfl) ?_
  refine gfrom [(0, .agg #[_]), (1, .slice _ _ _)] ⟨rfl, rfl, trivial⟩ fun σ => ?_
  refine gseq fun N1 hN1 => ?_
  refine greg ?_
  refine gop_box (v := .agg #[_]) (cs := #[_]) rfl rfl rfl (fun b2 hb2 => ?_)
  refine gop (y_assign (v := .bool _) rfl) rfl rfl rfl ?_
  refine gops_nil ?_
  refine hN1 _ _ ?_
  refine gT [box b2 _] rfl ?_
  refine gfrom [(1, .slice _ _ _), (2, .pointer _)] ⟨rfl, rfl, trivial⟩ fun σ => ?_
  refine gseq fun N2 hN2 => ?_
  refine greg ?_
  refine gop (y_loads (cs := [_]) Try.isAgg25 Try.sizeOf25 rfl rfl (cells_box 0 rfl)) rfl rfl rfl ?_
  refine gop (y_move (v := .slice _ _ _) rfl) rfl rfl rfl ?_
  refine gop_got (fun v T' => ∃ lo v1, w.heap.size ≤ lo ∧ v = .tuple #[v1, fv (applyF (pls hs) text)] ∧ T' = [rowl strCells lo 9 1 v1 (applyR (pls hs) text)]) (e_call (vs := [.agg #[_], .slice _ _ _]) Try.func23 rfl (by kernel_rfl) rfl) (fun w hM => (apply_any w _ _ hs (PatR.lasts.base hp hM) _ _ text (ht.base hM) htb).mono fun _ _ ⟨v, T1, h1, h2, h3⟩ => ⟨_, T1, h1, ⟨_, v, hM.low.size, rfl, h2⟩, h3⟩) rfl rfl rfl ?_
  rintro _ _ ⟨lo14, v14, hlo14, rfl, rfl⟩
  refine gops_fact (fun w hM => row_form (hM.ok _ (List.mem_of_getElem? (i := 1) rfl))) ?_
  rintro ⟨A14, c14, rfl, hc14, hm14, hn14⟩
  refine gop (y_move (v := .tuple #[.slice A14 _ c14, .agg #[_, _]]) rfl) rfl rfl rfl ?_
  refine gop (y_extract (v := .slice _ _ _) rfl rfl) rfl rfl rfl ?_
  refine gop (y_extract (v := .agg #[_, _]) rfl rfl) rfl rfl rfl ?_
  refine gop_alloc (cs := #[.int .i64 0, .int .i64 0]) Try.zeroValue27 rfl rfl (fun b6 hb6 => ?_)
  refine gop (y_assign (v := .slice _ _ _) rfl) rfl rfl rfl ?_
  refine gop_store 2 (v := .agg #[_, _]) (cs' := #[_, _]) rfl rfl Try.sizeOf27 rfl rfl rfl rfl (Nat.le_of_ble_eq_true rfl) rfl rfl ?_
  refine gops_nil ?_
  refine hN2 _ _ ?_
  refine gT [box b2 _, rowl _ _ _ _ _ _, box b6 _] rfl ?_
  refine gfrom [(1, .slice _ _ _), (2, .pointer _), (5, .slice _ _ _), (6, .pointer _)] ⟨rfl, rfl, rfl, rfl, trivial⟩ fun σ => ?_
  refine gseq fun N3 hN3 => ?_
  refine greg ?_
  refine gop (y_loads (cs := [_]) Try.isAgg25 Try.sizeOf25 rfl rfl (cells_box 0 rfl)) rfl rfl rfl ?_
  refine gop (y_move (v := .slice _ _ _) rfl) rfl rfl rfl ?_
  refine gop (y_len Try.underlying41 rfl) rfl rfl rfl ?_
  refine gop_new (fun lo ws v => ∃ v1, v = .tuple #[v1, fv (keptF (pls hs) (text.length : Int))] ∧ NewL 1 intCells (keptR (pls hs) (text.length : Int)) lo ws v1) (e_call (vs := [.agg #[_], .int _ _]) Try.func14 rfl (by kernel_rfl) rfl) (fun w hM => by have hc := kept_any w _ _ hs (PatR.lasts.base hp hM) (text.length : Int); exact hc.mono fun _ _ ⟨v, h1, h2, h3⟩ => ⟨_, h1, h2, v, rfl, h3⟩) rfl rfl rfl ?_
  rintro _ lo21 ws21 hlo21 ⟨_, rfl, A21, c21, rfl, hcc21, hcm21, hr21⟩
  refine gop (y_move (v := .tuple #[.slice _ _ _, .agg #[_, _]]) rfl) rfl rfl rfl ?_
  refine gop (y_extract (v := .slice _ _ _) rfl rfl) rfl rfl rfl ?_
  refine gop (y_extract (v := .agg #[_, _]) rfl rfl) rfl rfl rfl ?_
  refine gop_alloc (cs := #[.int .i64 0, .int .i64 0]) Try.zeroValue27 rfl rfl (fun b8 hb8 => ?_)
  refine gop (y_assign (v := .slice _ _ _) rfl) rfl rfl rfl ?_
  refine gop_store 4 (v := .agg #[_, _]) (cs' := #[_, _]) rfl rfl Try.sizeOf27 rfl rfl rfl rfl (Nat.le_of_ble_eq_true rfl) rfl rfl ?_
  refine gops_nil ?_
  refine hN3 _ _ ?_
  refine gT [box b2 _, rowl _ _ _ _ _ _, box b6 _, seal_ _ _, box b8 _] rfl ?_
  refine gfrom [(1, .slice _ _ _), (5, .slice _ _ _), (6, .pointer _), (7, .slice _ _ _), (8, .pointer _)] ⟨rfl, rfl, rfl, rfl, rfl, trivial⟩ fun σ => ?_
  refine gseq fun N4 hN4 => ?_
  refine gseq fun N5 hN5 => ?_
  refine greg ?_
  refine gop_pure (e_call (vs := []) Try.func15 rfl (by kernel_rfl) rfl) (fun w hM => anchorExample_any w) rfl rfl rfl ?_
  refine gop (y_not rfl) rfl rfl rfl ?_
  refine gops_nil ?_
  refine hN5 _ _ ?_
  refine gfrom [(1, .slice _ _ _), (5, .slice _ _ _), (6, .pointer _), (7, .slice _ _ _), (8, .pointer _), (25, .bool _)] ⟨rfl, rfl, rfl, rfl, rfl, rfl, trivial⟩ fun σ => ?_
  refine gcond (b := _) rfl (fun hc25 => ?_) (fun hc25 => ?_)
  · -- slot 25 t
    simp at hc25
  · -- slot 25 f
    replace hc25 := not_f hc25
    refine gskip ?_
    refine hN4 _ _ ?_
    refine gfrom [(1, .slice _ _ _), (5, .slice _ _ _), (6, .pointer _), (7, .slice _ _ _), (8, .pointer _)] ⟨rfl, rfl, rfl, rfl, rfl, trivial⟩ fun σ => ?_
    refine gseq fun N6 hN6 => ?_
    refine gseq fun N7 hN7 => ?_
    refine greg ?_
    refine gop (y_fieldAddr_box fa27_0 rfl) rfl rfl rfl ?_
    refine gop (y_load Try.isAgg3 rfl (cell_box 2 rfl rfl)) rfl rfl rfl ?_
    refine gop (y_neq rfl rfl) rfl rfl rfl ?_
    refine gops_nil ?_
    refine hN7 _ _ ?_
    refine gfrom [(1, .slice _ _ _), (5, .slice _ _ _), (7, .slice _ _ _), (8, .pointer _), (28, .bool _)] ⟨rfl, rfl, rfl, rfl, rfl, trivial⟩ fun σ => ?_
    refine gcond (b := _) rfl (fun hc28 => ?_) (fun hc28 => ?_)
    · -- slot 28 t
      replace hc28 := of_decide_eq_true hc28
      refine gseq fun N8 hN8 => ?_
      refine greg ?_
      refine gop (y_assign (v := .bool _) rfl) rfl rfl rfl ?_
      refine gops_nil ?_
      refine hN8 _ _ ?_
      refine gfrom [(4, .bool _)] ⟨rfl, trivial⟩ fun σ => ?_
      refine gret fun w1 hM => ?_
      refine ⟨_, res1 rfl (rt (v := .bool _) rfl), ?_⟩
      exact ⟨rfl, hM.low⟩
    · -- slot 28 f
      replace hc28 := Decidable.not_not.1 (of_decide_eq_false hc28)
      obtain ⟨hA0, happ, hAR⟩ := applyF_code hc28
      obtain ⟨hK0, hKR⟩ := keptF_app happ
      have hRl : (keptR (pls hs) (text.length : Int)).length = text.length := by rw [hKR, keptL]; simp
      have htl := linesF_len happ.lines
      refine gskip ?_
      refine hN6 _ _ ?_
      refine gfrom [(1, .slice _ _ _), (5, .slice _ _ _), (7, .slice _ _ _), (8, .pointer _)] ⟨rfl, rfl, rfl, rfl, trivial⟩ fun σ => ?_
      refine gseq fun N9 hN9 => ?_
      refine gseq fun N10 hN10 => ?_
      refine greg ?_
      refine gop (y_fieldAddr_box fa27_0 rfl) rfl rfl rfl ?_
      refine gop (y_load Try.isAgg3 rfl (cell_box 4 rfl rfl)) rfl rfl rfl ?_
      refine gop (y_neq rfl rfl) rfl rfl rfl ?_
      refine gop (y_move (v := .bool _) rfl) rfl rfl rfl ?_
      refine gop_if (want := false) rfl rfl rfl rfl rfl rfl (fun hg32 => ?_) (fun hg32 => ?_)
      · -- guard 32 on
        have hg32d := Decidable.not_not.1 (of_decide_eq_false hg32)
        refine gop (y_bare (y_move (v := .slice _ _ _) rfl)) rfl rfl rfl ?_
        refine gop_on rfl rfl rfl rfl hg32 ?_
        refine gop (y_bare (y_len Try.underlying30 rfl)) rfl rfl rfl ?_
        refine gop_on rfl rfl rfl rfl hg32 ?_
        refine gop (y_bare (y_move (v := .slice _ _ _) rfl)) rfl rfl rfl ?_
        refine gop_on rfl rfl rfl rfl hg32 ?_
        refine gop (y_bare (y_len Try.underlying41 rfl)) rfl rfl rfl ?_
        refine gop_on rfl rfl rfl rfl hg32 ?_
        refine gop (y_bare (y_neq rfl rfl)) rfl rfl rfl ?_
        refine gop (y_pick_f (v := .bool _) rfl hg32 rfl) rfl rfl rfl ?_
        refine gops_nil ?_
        refine hN10 _ _ ?_
        refine gfrom [(1, .slice _ _ _), (5, .slice _ _ _), (7, .slice _ _ _), (38, .bool _)] ⟨rfl, rfl, rfl, rfl, trivial⟩ fun σ => ?_
        refine gcond (b := _) rfl (fun hc38 => ?_) (fun hc38 => ?_)
        · -- slot 38 t
          exact (of_decide_eq_true hc38 (by rw [hRl])).elim
        · -- slot 38 f
          replace hc38 := Decidable.not_not.1 (of_decide_eq_false hc38)
          refine gskip ?_
          refine hN9 _ _ ?_
          refine gfrom [(1, .slice _ _ _), (5, .slice _ _ _), (7, .slice _ _ _)] ⟨rfl, rfl, rfl, trivial⟩ fun σ => ?_
          refine gseq fun N11 hN11 => ?_
          refine greg ?_
          refine gop (y_assign (v := .int _ _) rfl) rfl rfl rfl ?_
          refine gops_nil ?_
          refine hN11 _ _ ?_
          refine gfrom [(1, .slice _ _ _), (5, .slice _ _ _), (7, .slice _ _ _), (9, .int _ _)] ⟨rfl, rfl, rfl, rfl, trivial⟩ fun σ => ?_
          refine gseq fun N12 hN12 => ?_
          refine gseq fun N13 hN13 => ?_
          refine greg ?_
          refine gop (y_assign (v := .int _ _) rfl) rfl rfl rfl ?_
          refine gops_nil ?_
          refine hN13 _ _ ?_
          refine gfrom [(1, .slice _ _ _), (5, .slice _ _ _), (7, .slice _ _ _), (9, .int _ _), (10, .int _ _)] ⟨rfl, rfl, rfl, rfl, rfl, trivial⟩ fun σ => ?_
          refine gblock ?_
          refine gfrom2 [(9, .int _ _), (10, .int _ _)] [(1, .slice _ _ _), (5, .slice _ _ _), (7, .slice _ _ _)] ⟨rfl, rfl, trivial⟩ ⟨rfl, rfl, rfl, trivial⟩ fun σ => ?_
          refine gloop2 (G := Nat × Int) (fun (k, last) => k ≤ text.length ∧ ∀ i : Nat, k ≤ i → i < text.length → (place (pls hs) i 0).2 = true → last < (place (pls hs) i 0).1) (fun (k, last) => text.length - k) (fun (k, last) => [(9, .int .i64 last), (10, .int .i64 (k : Int))]) (fun (k, last) => []) ((0, -1)) ?h0 ⟨rfl, rfl, trivial⟩ ⟨rfl, rfl, rfl, trivial⟩ rfl ?round
          case h0 => exact ⟨Nat.zero_le _, fun i _ _ _ => by have := place_nn (pls hs) i 0 0 happ.pv.chain (by decide) (by omega); show (-1 : Int) < _; omega⟩
          case round =>
            rintro ⟨k, last⟩ hφ σ
            obtain ⟨hk, hlast⟩ := hφ
            refine gseq fun N14 hN14 => ?_
            refine gseq fun N15 hN15 => ?_
            refine greg ?_
            refine gop (y_move (v := .int _ _) rfl) rfl rfl rfl ?_
            refine gop (y_move (v := .slice _ _ _) rfl) rfl rfl rfl ?_
            refine gop (y_len Try.underlying30 rfl) rfl rfl rfl ?_
            refine gop (y_lss rfl rfl) rfl rfl rfl ?_
            refine gops_nil ?_
            refine hN15 _ _ ?_
            refine gfrom [(1, .slice _ _ _), (5, .slice _ _ _), (7, .slice _ _ _), (9, .int _ _), (10, .int _ _), (42, .bool _)] ⟨rfl, rfl, rfl, rfl, rfl, rfl, trivial⟩ fun σ => ?_
            refine gcond (b := _) rfl (fun hc42 => ?_) (fun hc42 => ?_)
            · -- slot 42 t
              replace hc42 := of_decide_eq_true hc42
              have hk1 : k < (keptR (pls hs) (text.length : Int)).length := by omega
              obtain ⟨ad, rfl, hlo2, hcl⟩ := hr21.at_ hk1
              have hkl : (keptR (pls hs) (text.length : Int))[k] = keptAt (pls hs) k := by simp only [hKR]; exact keptL_at _
              refine gskip ?_
              refine hN14 _ _ ?_
              refine gfrom [(1, .slice _ _ _), (5, .slice _ _ _), (7, .slice _ _ _), (9, .int _ _), (10, .int _ _)] ⟨rfl, rfl, rfl, rfl, rfl, trivial⟩ fun σ => ?_
              refine gseq fun N16 hN16 => ?_
              refine gblock ?_
              refine gseq fun N17 hN17 => ?_
              refine gseq fun N18 hN18 => ?_
              refine greg ?_
              refine gop (y_move (v := .slice _ _ _) rfl) rfl rfl rfl ?_
              refine gop (y_move (v := .int _ _) rfl) rfl rfl rfl ?_
              refine gop (y_indexAddr Try.underlying30 Try.sizeOf3 rfl rfl rfl (by omega) (by omega)) rfl rfl rfl ?_
              refine gop (y_load Try.isAgg3 rfl (cell_seal 3 rfl (by rw [block_add]; exact hlo2) (hcl 0 _ rfl))) rfl rfl rfl ?_
              refine gop (y_lss rfl rfl) rfl rfl rfl ?_
              refine gops_nil ?_
              refine hN18 _ _ ?_
              refine gfrom [(1, .slice _ _ _), (5, .slice _ _ _), (7, .slice _ _ _), (9, .int _ _), (10, .int _ _), (49, .bool _)] ⟨rfl, rfl, rfl, rfl, rfl, rfl, trivial⟩ fun σ => ?_
              refine gcond (b := _) rfl (fun hc49 => ?_) (fun hc49 => ?_)
              · -- slot 49 t
                replace hc49 := of_decide_eq_true hc49
                refine gexit ?_
                refine hN16 _ _ ?_
                refine gfrom [(1, .slice _ _ _), (5, .slice _ _ _), (7, .slice _ _ _), (9, .int _ _), (10, .int _ _)] ⟨rfl, rfl, rfl, rfl, rfl, trivial⟩ fun σ => ?_
                refine greg ?_
                refine gop (y_move (v := .int _ _) rfl) rfl rfl rfl ?_
                refine gop (y_add rfl rfl ⟨by omega, by omega⟩) rfl rfl rfl ?_
                refine gop (y_assign (v := .int _ _) rfl) rfl rfl rfl ?_
                refine gops_nil ?_
                refine gnext2 ((k + 1, last)) (by show text.length - (k + 1) < text.length - k; omega) (⟨show k + 1 ≤ _ by omega, fun i h1 h2 h3 => hlast i (by omega) h2 h3⟩) ⟨rfl, rfl, trivial⟩ ⟨rfl, rfl, rfl, trivial⟩ ⟨_, rfl⟩
              · -- slot 49 f
                replace hc49 := of_decide_eq_false hc49
                obtain ⟨hkp, hkv⟩ := keptAt_nn happ.pv (i := k) (by rw [← hkl]; omega)
                obtain ⟨j, hj, hjt⟩ := kept_text happ (i := k) (by omega) hkp
                have hkj : (keptR (pls hs) (text.length : Int))[k] = (j : Int) := by rw [hkl, hkv, hj]
                rw [← hAR] at hjt
                have hjl : j < (applyR (pls hs) text).length := (List.getElem?_eq_some_iff.1 hjt).1
                have hlk : last < (keptR (pls hs) (text.length : Int))[k] := by rw [hkl, hkv]; exact hlast k (Nat.le_refl _) (by omega) hkp
                obtain ⟨ad2, rfl, -, hct⟩ := ht.at_ (k := k) (by omega)
                refine g_fact (fun w hM => own_some (hM.own 1 rfl) (by omega)) ?_
                rintro ⟨g14, cg, hvg, -, -⟩
                simp only [Value.slice.injEq] at hvg
                obtain ⟨rfl, -, rfl⟩ := hvg
                refine gskip ?_
                refine hN17 _ _ ?_
                refine gfrom [(1, .slice _ _ _), (5, .slice _ _ _), (7, .slice _ _ _), (9, .int _ _), (10, .int _ _)] ⟨rfl, rfl, rfl, rfl, rfl, trivial⟩ fun σ => ?_
                refine gseq fun N19 hN19 => ?_
                refine gseq fun N20 hN20 => ?_
                refine greg_q (by kernel_rfl) (by kernel_rfl) ?_
                refine gq (y_move (v := .slice _ _ _) rfl) rfl rfl rfl ?_
                refine gq (y_move (v := .int _ _) rfl) rfl rfl rfl ?_
                refine gq (y_indexAddr Try.underlying30 Try.sizeOf3 rfl rfl rfl (by omega) (by omega)) rfl rfl rfl ?_
                refine gq (y_load Try.isAgg3 rfl (cell_seal 3 rfl (by rw [block_add]; exact hlo2) (hcl 0 _ rfl))) rfl rfl rfl ?_
                refine gq (y_move (v := .int _ _) rfl) rfl rfl rfl ?_
                refine gq (y_leq rfl rfl) rfl rfl rfl ?_
                refine gq (y_move (v := .bool _) rfl) rfl rfl rfl ?_
                refine gq_if (want := false) rfl rfl rfl rfl rfl rfl (fun hg56 => ?_) (fun hg56 => ?_)
                · -- guard 56 on
                  have hg56d := of_decide_eq_false hg56
                  refine gq (y_bare (y_move (v := .slice _ _ _) rfl)) rfl rfl rfl ?_
                  refine gq_on rfl rfl rfl rfl hg56 ?_
                  refine gq (y_bare (y_move (v := .int _ _) rfl)) rfl rfl rfl ?_
                  refine gq_on rfl rfl rfl rfl hg56 ?_
                  refine gq (y_bare (y_indexAddr Try.underlying30 Try.sizeOf3 rfl rfl rfl (by omega) (by omega))) rfl rfl rfl ?_
                  refine gq_on rfl rfl rfl rfl hg56 ?_
                  refine gq (y_bare (y_load Try.isAgg3 rfl (cell_seal 3 rfl (by rw [block_add]; exact hlo2) (hcl 0 _ rfl)))) rfl rfl rfl ?_
                  refine gq_on rfl rfl rfl rfl hg56 ?_
                  refine gq (y_bare (y_move (v := .slice _ _ _) rfl)) rfl rfl rfl ?_
                  refine gq_on rfl rfl rfl rfl hg56 ?_
                  refine gq (y_bare (y_len Try.underlying41 rfl)) rfl rfl rfl ?_
                  refine gq_on rfl rfl rfl rfl hg56 ?_
                  refine gq (y_bare (y_geq rfl rfl)) rfl rfl rfl ?_
                  refine gq (y_pick_f (v := .bool _) rfl hg56 rfl) rfl rfl rfl ?_
                  refine gq (y_move (v := .bool _) rfl) rfl rfl rfl ?_
                  refine gq_if (want := false) rfl rfl rfl rfl rfl rfl (fun hg65 => ?_) (fun hg65 => ?_)
                  · -- guard 65 on
                    have hg65d := of_decide_eq_false hg65
                    refine gq (y_bare (y_move (v := .slice _ _ _) rfl)) rfl rfl rfl ?_
                    refine gq_on rfl rfl rfl rfl hg65 ?_
                    refine gq (y_bare (y_move (v := .slice _ _ _) rfl)) rfl rfl rfl ?_
                    refine gq_on rfl rfl rfl rfl hg65 ?_
                    refine gq (y_bare (y_move (v := .int _ _) rfl)) rfl rfl rfl ?_
                    refine gq_on rfl rfl rfl rfl hg65 ?_
                    refine gq (y_bare (y_indexAddr Try.underlying30 Try.sizeOf3 rfl rfl rfl (by omega) (by omega))) rfl rfl rfl ?_
                    refine gq_on rfl rfl rfl rfl hg65 ?_
                    refine gq (y_bare (y_load Try.isAgg3 rfl (cell_seal 3 rfl (by rw [block_add]; exact hlo2) (hcl 0 _ rfl)))) rfl rfl rfl ?_
                    refine gq_on rfl rfl rfl rfl hg65 ?_
                    refine gq (y_bare (y_indexAddr (m := j) Try.underlying41 Try.sizeOf9 rfl rfl (by omega) (by omega) (by omega))) rfl rfl rfl ?_
                    refine gq_on rfl rfl rfl rfl hg65 ?_
                    refine gq (y_bare (y_load Try.isAgg9 rfl (cells_rowl 1 (f := strCells) (l := applyR (pls hs) text) (k := j) rfl rfl (fun _ => rfl) hjt 0 _ rfl))) rfl rfl rfl ?_
                    refine gq_on rfl rfl rfl rfl hg65 ?_
                    refine gq (y_bare (y_move (v := .slice _ _ _) rfl)) rfl rfl rfl ?_
                    refine gq_on rfl rfl rfl rfl hg65 ?_
                    refine gq (y_bare (y_move (v := .int _ _) rfl)) rfl rfl rfl ?_
                    refine gq_on rfl rfl rfl rfl hg65 ?_
                    refine gq (y_bare (y_indexAddr Try.underlying41 Try.sizeOf9 rfl rfl rfl (by omega) (by omega))) rfl rfl rfl ?_
                    refine gq_on rfl rfl rfl rfl hg65 ?_
                    refine gq (y_bare (y_load Try.isAgg9 rfl (cell_base (hct 0 _ rfl)))) rfl rfl rfl ?_
                    refine gq_on rfl rfl rfl rfl hg65 ?_
                    refine gq (y_bare (y_neqs rfl rfl)) rfl rfl rfl ?_
                    refine gq (y_pick_f (v := .bool _) rfl hg65 rfl) rfl rfl rfl ?_
                    refine gqs_nil ?_
                    refine hN20 _ _ ?_
                    refine gfrom [(1, .slice _ _ _), (5, .slice _ _ _), (7, .slice _ _ _), (10, .int _ _), (78, .bool _)] ⟨rfl, rfl, rfl, rfl, rfl, trivial⟩ fun σ => ?_
                    refine gcond (b := _) rfl (fun hc78 => ?_) (fun hc78 => ?_)
                    · -- slot 78 t
                      simp at hc78
                    · -- slot 78 f
                      refine gskip ?_
                      refine hN19 _ _ ?_
                      refine gfrom [(1, .slice _ _ _), (5, .slice _ _ _), (7, .slice _ _ _), (10, .int _ _)] ⟨rfl, rfl, rfl, rfl, trivial⟩ fun σ => ?_
                      refine greg ?_
                      refine gop (y_move (v := .slice _ _ _) rfl) rfl rfl rfl ?_
                      refine gop (y_move (v := .int _ _) rfl) rfl rfl rfl ?_
                      refine gop (y_indexAddr Try.underlying30 Try.sizeOf3 rfl rfl rfl (by omega) (by omega)) rfl rfl rfl ?_
                      refine gop (y_load Try.isAgg3 rfl (cell_seal 3 rfl (by rw [block_add]; exact hlo2) (hcl 0 _ rfl))) rfl rfl rfl ?_
                      refine gop (y_assign (v := .int _ _) rfl) rfl rfl rfl ?_
                      refine gops_nil ?_
                      refine hN16 _ _ ?_
                      refine gfrom [(1, .slice _ _ _), (5, .slice _ _ _), (7, .slice _ _ _), (9, .int _ _), (10, .int _ _)] ⟨rfl, rfl, rfl, rfl, rfl, trivial⟩ fun σ => ?_
                      refine greg ?_
                      refine gop (y_move (v := .int _ _) rfl) rfl rfl rfl ?_
                      refine gop (y_add rfl rfl ⟨by omega, by omega⟩) rfl rfl rfl ?_
                      refine gop (y_assign (v := .int _ _) rfl) rfl rfl rfl ?_
                      refine gops_nil ?_
                      refine gnext2 ((k + 1, (keptR (pls hs) (text.length : Int))[k])) (by show text.length - (k + 1) < text.length - k; omega) (⟨show k + 1 ≤ _ by omega, fun i h1 h2 h3 => by rw [hkl, hkv]; exact place_mono (pls hs) k i 0 0 happ.pv.chain (by omega) (by omega) hkp h3⟩) ⟨rfl, rfl, trivial⟩ ⟨rfl, rfl, rfl, trivial⟩ ⟨_, rfl⟩
                  · -- guard 65 off
                    exact absurd (of_decide_eq_true hg65) (by omega)
                · -- guard 56 off
                  exact absurd (of_decide_eq_true hg56) (by omega)
            · -- slot 42 f
              replace hc42 := of_decide_eq_false hc42
              refine gexit ?_
              refine hN12 _ _ ?_
              refine gfrom [] trivial fun σ => ?_
              refine gseq fun N21 hN21 => ?_
              refine greg ?_
              refine gop (y_assign (v := .bool _) rfl) rfl rfl rfl ?_
              refine gops_nil ?_
              refine hN21 _ _ ?_
              refine gfrom [(4, .bool _)] ⟨rfl, trivial⟩ fun σ => ?_
              refine gret fun w1 hM => ?_
              refine ⟨_, res1 rfl (rt (v := .bool _) rfl), ?_⟩
              exact ⟨rfl, hM.low⟩
      · -- guard 32 off
        exact (of_decide_eq_true hg32 (by rw [hK0])).elim
end Go.Proofs.Ytbaojdiccikbiaa
