/- walks, printed by program -/
import Derived.Test.YtbaojdiccikbiaaThlA
namespace Go.Proofs.Ytbaojdiccikbiaa
open Go.RowKit Go.Cf
set_option maxRecDepth 10000



theorem run_n (w : World) (B : Option Addr) (d : Nat) (text : List ByteArray) (ht : Rdl w 0 1 strCells B text) (htb : SB B text.length d 16) (E : Option Addr) (ec : Nat) (es : List EvC) (he : EvsR w 0 E es) (hem : es.length ≤ maxLen) (n : Nat) (hn : n = es.length) :
    Calls Try.prog 24 #[.slice B text.length d, .slice E n ec] w fun e w' => ∃ v1 v2, e = .returned (.tuple #[v1, v2, fv (runV text (evs es)).1]) ∧ Below w.heap.size w w' ∧ NewL 5 thrCells (runV text (evs es)).2.1 w.heap.size w' v1 ∧ NewL 1 strCells (runV text (evs es)).2.2 w.heap.size w' v2 := by
  subst hn; exact run_any w B d text ht htb E ec es he hem
set_option maxHeartbeats 4000000 in
theorem law13_any (w : World) (B : Option Addr) (d : Nat) (text : List ByteArray) (ht : Rdl w 0 1 strCells B text) (htb : SB B text.length d 16) (E : Option Addr) (ec : Nat) (es : List EvC) (he : EvsR w 0 E es) (hem : es.length ≤ maxLen) (hec : es.length ≤ ec) :
    Calls Try.prog 9 #[.slice B text.length d, .slice E es.length ec] w fun e w' => e = .returned (.bool true) ∧ Below w.heap.size w w' := by
  have hmx : maxLen = 9223372036854775807 := rfl
  have htc := htb.len
  have htm := htb.max
  refine gcalls Try.func9 rfl Try.ntmps9 (Nat.le_of_ble_eq_true rfl) ?_
  refine gfrom [(0, .slice _ _ _), (1, .slice _ _ _)] ⟨rfl, rfl, trivial⟩ fun σ => ?_
  refine gseq fun N1 hN1 => ?_
  refine greg ?_
  refine gop (y_assign (v := .bool _) rfl) rfl rfl rfl ?_
  refine gops_nil ?_
  refine hN1 _ _ ?_
  refine gfrom [(0, .slice _ _ _), (1, .slice _ _ _)] ⟨rfl, rfl, trivial⟩ fun σ => ?_
  refine gseq fun N2 hN2 => ?_
  refine greg ?_
  refine gop (y_move (v := .slice _ _ _) rfl) rfl rfl rfl ?_
  refine gop (y_move (v := .slice _ _ _) rfl) rfl rfl rfl ?_
  refine gop_new (fun lo ws v => ∃ v1 v2, v = .tuple #[v1, v2, fv (runV text (evs es)).1] ∧ NewL 5 thrCells (runV text (evs es)).2.1 lo ws v1 ∧ NewL 1 strCells (runV text (evs es)).2.2 lo ws v2) (e_call (vs := [.slice _ _ _, .slice _ _ _]) Try.func24 rfl (by kernel_rfl) rfl) (fun w hM => by have hc := run_any w B d text (ht.base hM) htb E ec es (EvsR.lasts.base he hM) hem; exact hc.mono fun _ _ ⟨v1, v2, h1, h2, h3, h4⟩ => ⟨_, h1, h2, v1, v2, rfl, h3, h4⟩) rfl rfl rfl ?_
  rintro _ lo17 ws17 hlo17 ⟨_, _, rfl, ⟨A17, c17, rfl, hcc17, hcm17, hr17⟩, ⟨B17, d17, rfl, hdc17, hdm17, hq17⟩⟩
  refine gop (y_move (v := .tuple #[.slice _ _ _, .slice _ _ _, .agg #[_, _]]) rfl) rfl rfl rfl ?_
  refine gop (y_extract (v := .slice _ _ _) rfl rfl) rfl rfl rfl ?_
  refine gop (y_extract (v := .slice _ _ _) rfl rfl) rfl rfl rfl ?_
  refine gop (y_extract (v := .agg #[_, _]) rfl rfl) rfl rfl rfl ?_
  refine gop_alloc (cs := #[.int .i64 0, .int .i64 0]) Try.zeroValue27 rfl rfl (fun b7 hb7 => ?_)
  refine gop (y_assign (v := .slice _ _ _) rfl) rfl rfl rfl ?_
  refine gop (y_assign (v := .slice _ _ _) rfl) rfl rfl rfl ?_
  refine gop_store 1 (v := .agg #[_, _]) (cs' := #[_, _]) rfl rfl Try.sizeOf27 rfl rfl rfl rfl (Nat.le_of_ble_eq_true rfl) rfl rfl ?_
  refine gops_nil ?_
  refine hN2 _ _ ?_
  refine gT [seal_ _ _, box b7 _] rfl ?_
  refine gfrom [(0, .slice _ _ _), (1, .slice _ _ _), (5, .slice _ _ _), (6, .slice _ _ _), (7, .pointer _)] ⟨rfl, rfl, rfl, rfl, rfl, trivial⟩ fun σ => ?_
  refine gseq fun N3 hN3 => ?_
  refine gseq fun N4 hN4 => ?_
  refine greg ?_
  refine gop_pure (e_call (vs := []) Try.func27 rfl (by kernel_rfl) rfl) (fun w hM => threadsExample_any w) rfl rfl rfl ?_
  refine gop (y_not rfl) rfl rfl rfl ?_
  refine gops_nil ?_
  refine hN4 _ _ ?_
  refine gfrom [(0, .slice _ _ _), (1, .slice _ _ _), (5, .slice _ _ _), (6, .slice _ _ _), (7, .pointer _), (22, .bool _)] ⟨rfl, rfl, rfl, rfl, rfl, rfl, trivial⟩ fun σ => ?_
  refine gcond (b := _) rfl (fun hc22 => ?_) (fun hc22 => ?_)
  · -- slot 22 t
    simp at hc22
  · -- slot 22 f
    replace hc22 := not_f hc22
    refine gskip ?_
    refine hN3 _ _ ?_
    refine gfrom [(0, .slice _ _ _), (1, .slice _ _ _), (5, .slice _ _ _), (6, .slice _ _ _), (7, .pointer _)] ⟨rfl, rfl, rfl, rfl, rfl, trivial⟩ fun σ => ?_
    refine gseq fun N5 hN5 => ?_
    refine greg ?_
    refine gop (y_assign (v := .int _ _) rfl) rfl rfl rfl ?_
    refine gops_nil ?_
    refine hN5 _ _ ?_
    refine gfrom [(0, .slice _ _ _), (1, .slice _ _ _), (5, .slice _ _ _), (6, .slice _ _ _), (7, .pointer _), (8, .int _ _)] ⟨rfl, rfl, rfl, rfl, rfl, rfl, trivial⟩ fun σ => ?_
    refine gseq fun N6 hN6 => ?_
    refine gseq fun N7 hN7 => ?_
    refine greg ?_
    refine gop (y_assign (v := .int _ _) rfl) rfl rfl rfl ?_
    refine gops_nil ?_
    refine hN7 _ _ ?_
    refine gfrom [(0, .slice _ _ _), (1, .slice _ _ _), (5, .slice _ _ _), (6, .slice _ _ _), (7, .pointer _), (8, .int _ _), (9, .int _ _)] ⟨rfl, rfl, rfl, rfl, rfl, rfl, rfl, trivial⟩ fun σ => ?_
    refine gblock ?_
    refine gfrom2 [(8, .int _ _), (9, .int _ _)] [(0, .slice _ _ _), (1, .slice _ _ _), (5, .slice _ _ _), (6, .slice _ _ _), (7, .pointer _)] ⟨rfl, rfl, trivial⟩ ⟨rfl, rfl, rfl, rfl, rfl, trivial⟩ fun σ => ?_
    refine gloop2 (G := Nat) (fun k => k ≤ es.length) (fun k => es.length - k) (fun k => [(8, .int .i64 (opens (evs es) k : Int)), (9, .int .i64 (k : Int))]) (fun k => []) (0) ?h0 ⟨rfl, rfl, trivial⟩ ⟨rfl, rfl, rfl, rfl, rfl, trivial⟩ rfl ?round
    case h0 => exact Nat.zero_le _
    case round =>
      intro k hφ σ
      have hk := hφ
      have hob : opens (evs es) k ≤ k := opens_le _ _
      refine gseq fun N8 hN8 => ?_
      refine gseq fun N9 hN9 => ?_
      refine greg ?_
      refine gop (y_fieldAddr_box fa27_0 rfl) rfl rfl rfl ?_
      refine gop (y_load Try.isAgg3 rfl (cell_box 1 rfl rfl)) rfl rfl rfl ?_
      refine gop (y_eql rfl rfl) rfl rfl rfl ?_
      refine gop (y_move (v := .bool _) rfl) rfl rfl rfl ?_
      refine gop_if (want := true) rfl rfl rfl rfl rfl rfl (fun hg26 => ?_) (fun hg26 => ?_)
      · -- guard 26 on
        have hg26d := of_decide_eq_true hg26
        refine gop (y_bare (y_move (v := .int _ _) rfl)) rfl rfl rfl ?_
        refine gop_on rfl rfl rfl rfl hg26 ?_
        refine gop (y_bare (y_move (v := .slice _ _ _) rfl)) rfl rfl rfl ?_
        refine gop_on rfl rfl rfl rfl hg26 ?_
        refine gop (y_bare (y_len Try.underlying54 rfl)) rfl rfl rfl ?_
        refine gop_on rfl rfl rfl rfl hg26 ?_
        refine gop (y_bare (y_lss rfl rfl)) rfl rfl rfl ?_
        refine gop (y_pick_t (v := .bool _) rfl hg26 rfl) rfl rfl rfl ?_
        refine gops_nil ?_
        refine hN9 _ _ ?_
        refine gfrom [(0, .slice _ _ _), (1, .slice _ _ _), (5, .slice _ _ _), (6, .slice _ _ _), (7, .pointer _), (8, .int _ _), (9, .int _ _), (31, .bool _)] ⟨rfl, rfl, rfl, rfl, rfl, rfl, rfl, rfl, trivial⟩ fun σ => ?_
        refine gcond (b := _) rfl (fun hc31 => ?_) (fun hc31 => ?_)
        · -- slot 31 t
          replace hc31 := of_decide_eq_true hc31
          have hz := runV_code hg26d
          have hk1 : k < es.length := by omega
          have hk2 : k < (evs es).length := by simpa using hk1
          obtain ⟨ad, rfl, -, hcv⟩ := he.rd.at_ hk1
          refine gskip ?_
          refine hN8 _ _ ?_
          refine gfrom [(0, .slice _ _ _), (1, .slice _ _ _), (5, .slice _ _ _), (6, .slice _ _ _), (7, .pointer _), (8, .int _ _), (9, .int _ _)] ⟨rfl, rfl, rfl, rfl, rfl, rfl, rfl, trivial⟩ fun σ => ?_
          refine gseq fun N10 hN10 => ?_
          refine gblock ?_
          refine gseq fun N11 hN11 => ?_
          refine gseq fun N12 hN12 => ?_
          refine greg ?_
          refine gop (y_move (v := .slice _ _ _) rfl) rfl rfl rfl ?_
          refine gop (y_move (v := .int _ _) rfl) rfl rfl rfl ?_
          refine gop (y_indexAddr Try.underlying54 Try.sizeOf66 rfl rfl rfl (by omega) (by omega)) rfl rfl rfl ?_
          refine gop (y_fieldAddr_add fa66_0 rfl) rfl rfl rfl ?_
          refine gop (y_load Try.isAgg3 rfl (cell_base (hcv 0 _ rfl))) rfl rfl rfl ?_
          refine gop (y_neq rfl rfl) rfl rfl rfl ?_
          refine gops_nil ?_
          refine hN12 _ _ ?_
          refine gfrom [(0, .slice _ _ _), (1, .slice _ _ _), (5, .slice _ _ _), (6, .slice _ _ _), (7, .pointer _), (8, .int _ _), (9, .int _ _), (39, .bool _)] ⟨rfl, rfl, rfl, rfl, rfl, rfl, rfl, rfl, trivial⟩ fun σ => ?_
          refine gcond (b := _) rfl (fun hc39 => ?_) (fun hc39 => ?_)
          · -- slot 39 t
            replace hc39 := of_decide_eq_true hc39
            refine gexit ?_
            refine hN10 _ _ ?_
            refine gfrom [(0, .slice _ _ _), (1, .slice _ _ _), (5, .slice _ _ _), (6, .slice _ _ _), (7, .pointer _), (8, .int _ _), (9, .int _ _)] ⟨rfl, rfl, rfl, rfl, rfl, rfl, rfl, trivial⟩ fun σ => ?_
            refine greg ?_
            refine gop (y_move (v := .int _ _) rfl) rfl rfl rfl ?_
            refine gop (y_add rfl rfl ⟨by omega, by omega⟩) rfl rfl rfl ?_
            refine gop (y_assign (v := .int _ _) rfl) rfl rfl rfl ?_
            refine gops_nil ?_
            refine gnext2 (k + 1) (by omega) (show k + 1 ≤ _ by omega) ⟨(congrArg (Value.int .i64) (by rw [opens_no hk2 (by rw [List.getElem_map]; exact hc39)])), rfl, trivial⟩ ⟨rfl, rfl, rfl, rfl, rfl, trivial⟩ ⟨_, rfl⟩
          · -- slot 39 f
            replace hc39 := Decidable.not_not.1 (of_decide_eq_false hc39)
            obtain ⟨hs1, hs2, hs3, hs4⟩ := run_stay hz hk2 (by rw [List.getElem_map]; exact hc39)
            have hcut := run_cut hz (n := k) (by omega)
            simp only [List.getElem_map] at hs2 hs3 hs4
            have hs5 := hs4 _ (List.getElem?_eq_getElem hs1)
            obtain ⟨ad2, rfl, hlo2, hcl2⟩ := hr17.at_ hs1
            refine gskip ?_
            refine hN11 _ _ ?_
            refine gfrom [(0, .slice _ _ _), (1, .slice _ _ _), (5, .slice _ _ _), (6, .slice _ _ _), (7, .pointer _), (8, .int _ _), (9, .int _ _)] ⟨rfl, rfl, rfl, rfl, rfl, rfl, rfl, trivial⟩ fun σ => ?_
            refine gseq fun N13 hN13 => ?_
            refine greg ?_
            refine gop (y_move (v := .slice _ _ _) rfl) rfl rfl rfl ?_
            refine gop (y_move (v := .slice _ _ _) rfl) rfl rfl rfl ?_
            refine gop (y_move (v := .int _ _) rfl) rfl rfl rfl ?_
            refine gop (y_slice_hi Try.underlying54 Try.sizeOf66 rfl rfl (by omega) (by omega)) rfl rfl rfl ?_
            refine gop_new (fun lo ws v => ∃ v1 v2, v = .tuple #[v1, v2, fv (runV text ((evs es).take k)).1] ∧ NewL 5 thrCells (runV text ((evs es).take k)).2.1 lo ws v1 ∧ NewL 1 strCells (runV text ((evs es).take k)).2.2 lo ws v2) (e_call (vs := [.slice _ _ _, .slice _ _ _]) Try.func24 rfl (by kernel_rfl) rfl) (fun w hM => by have hc := run_n w B d text (ht.base hM) htb _ (ec - 0) (es.take k) (EvsR.lasts.base (he.cut (k := k) (by omega) hec) hM) (by simp; omega) (k - 0) (by simp; omega); rw [show evs (es.take k) = (evs es).take k from List.map_take] at hc; exact hc.mono fun _ _ ⟨v1, v2, h1, h2, h3, h4⟩ => ⟨_, h1, h2, v1, v2, rfl, h3, h4⟩) rfl rfl rfl ?_
            rintro _ lo45 ws45 hlo45 ⟨_, _, rfl, ⟨A45, c45, rfl, hcc45, hcm45, hr45⟩, ⟨B45, d45, rfl, hdc45, hdm45, hq45⟩⟩
            refine gop (y_move (v := .tuple #[.slice _ _ _, .slice _ _ _, .agg #[_, _]]) rfl) rfl rfl rfl ?_
            refine gop (y_extract (v := .slice _ _ _) rfl rfl) rfl rfl rfl ?_
            refine gop (y_extract (v := .slice _ _ _) rfl rfl) rfl rfl rfl ?_
            refine gop (y_extract (v := .agg #[_, _]) rfl rfl) rfl rfl rfl ?_
            refine gop_alloc (cs := #[.int .i64 0, .int .i64 0]) Try.zeroValue27 rfl rfl (fun b12 hb12 => ?_)
            refine gop (y_assign (v := .slice _ _ _) rfl) rfl rfl rfl ?_
            refine gop (y_assign (v := .slice _ _ _) rfl) rfl rfl rfl ?_
            refine gop_store 3 (v := .agg #[_, _]) (cs' := #[_, _]) rfl rfl Try.sizeOf27 rfl rfl rfl rfl (Nat.le_of_ble_eq_true rfl) rfl rfl ?_
            refine gops_nil ?_
            refine hN13 _ _ ?_
            refine gT [seal_ _ _, box b7 _, seal_ _ _, box b12 _] rfl ?_
            refine gfrom [(0, .slice _ _ _), (1, .slice _ _ _), (5, .slice _ _ _), (6, .slice _ _ _), (7, .pointer _), (8, .int _ _), (9, .int _ _), (11, .slice _ _ _), (12, .pointer _)] ⟨rfl, rfl, rfl, rfl, rfl, rfl, rfl, rfl, rfl, trivial⟩ fun σ => ?_
            refine gseq fun N14 hN14 => ?_
            refine gseq fun N15 hN15 => ?_
            refine greg ?_
            refine gop (y_fieldAddr_box fa27_0 rfl) rfl rfl rfl ?_
            refine gop (y_load Try.isAgg3 rfl (cell_box 3 rfl rfl)) rfl rfl rfl ?_
            refine gop (y_neq rfl rfl) rfl rfl rfl ?_
            refine gop (y_move (v := .bool _) rfl) rfl rfl rfl ?_
            refine gop_if (want := false) rfl rfl rfl rfl rfl rfl (fun hg52 => ?_) (fun hg52 => ?_)
            · -- guard 52 on
              have hg52d := Decidable.not_not.1 (of_decide_eq_false hg52)
              refine gop (y_bare (y_move (v := .int _ _) rfl)) rfl rfl rfl ?_
              refine gop_on rfl rfl rfl rfl hg52 ?_
              refine gop (y_bare (y_move (v := .slice _ _ _) rfl)) rfl rfl rfl ?_
              refine gop_on rfl rfl rfl rfl hg52 ?_
              refine gop (y_bare (y_len Try.underlying55 rfl)) rfl rfl rfl ?_
              refine gop_on rfl rfl rfl rfl hg52 ?_
              refine gop (y_bare (y_geq rfl rfl)) rfl rfl rfl ?_
              refine gop (y_pick_f (v := .bool _) rfl hg52 rfl) rfl rfl rfl ?_
              refine gop (y_move (v := .bool _) rfl) rfl rfl rfl ?_
              refine gop_if (want := false) rfl rfl rfl rfl rfl rfl (fun hg58 => ?_) (fun hg58 => ?_)
              · -- guard 58 on
                have hg58d := of_decide_eq_false hg58
                refine gop (y_bare (y_move (v := .slice _ _ _) rfl)) rfl rfl rfl ?_
                refine gop_on rfl rfl rfl rfl hg58 ?_
                refine gop (y_bare (y_move (v := .int _ _) rfl)) rfl rfl rfl ?_
                refine gop_on rfl rfl rfl rfl hg58 ?_
                refine gop (y_bare (y_indexAddr Try.underlying54 Try.sizeOf66 rfl rfl rfl (by omega) (by omega))) rfl rfl rfl ?_
                refine gop_on rfl rfl rfl rfl hg58 ?_
                refine gop (y_bare (y_fieldAddr_add fa66_3 rfl)) rfl rfl rfl ?_
                refine gop_on rfl rfl rfl rfl hg58 ?_
                refine gop (y_bare (y_load Try.isAgg3 rfl (cell_base (hcv 3 _ rfl)))) rfl rfl rfl ?_
                refine gop_on rfl rfl rfl rfl hg58 ?_
                refine gop (y_bare (y_move (v := .slice _ _ _) rfl)) rfl rfl rfl ?_
                refine gop_on rfl rfl rfl rfl hg58 ?_
                refine gop (y_bare (y_len Try.underlying41 rfl)) rfl rfl rfl ?_
                refine gop_on rfl rfl rfl rfl hg58 ?_
                refine gop (y_bare (y_geq rfl rfl)) rfl rfl rfl ?_
                refine gop (y_pick_f (v := .bool _) rfl hg58 rfl) rfl rfl rfl ?_
                refine gops_nil ?_
                refine hN15 _ _ ?_
                refine gfrom [(0, .slice _ _ _), (1, .slice _ _ _), (5, .slice _ _ _), (6, .slice _ _ _), (7, .pointer _), (8, .int _ _), (9, .int _ _), (11, .slice _ _ _), (67, .bool _)] ⟨rfl, rfl, rfl, rfl, rfl, rfl, rfl, rfl, rfl, trivial⟩ fun σ => ?_
                refine gcond (b := _) rfl (fun hc67 => ?_) (fun hc67 => ?_)
                · -- slot 67 t
                  exact absurd (of_decide_eq_true hc67) (by omega)
                · -- slot 67 f
                  replace hc67 := of_decide_eq_false hc67
                  refine gskip ?_
                  refine hN14 _ _ ?_
                  refine gfrom [(0, .slice _ _ _), (1, .slice _ _ _), (5, .slice _ _ _), (6, .slice _ _ _), (7, .pointer _), (8, .int _ _), (9, .int _ _), (11, .slice _ _ _)] ⟨rfl, rfl, rfl, rfl, rfl, rfl, rfl, rfl, trivial⟩ fun σ => ?_
                  refine gseq fun N16 hN16 => ?_
                  refine greg ?_
                  refine gop (y_move (v := .slice _ _ _) rfl) rfl rfl rfl ?_
                  refine gop (y_move (v := .int _ _) rfl) rfl rfl rfl ?_
                  refine gop (y_indexAddr (m := opens (evs es) k) Try.underlying55 Try.sizeOf60 rfl rfl (by omega) (by omega) (by omega)) rfl rfl rfl ?_
                  refine gop (y_loads (cs := [_, _, _, _, _]) Try.isAgg60 Try.sizeOf60 rfl rfl (cells_sealed 0 rfl hlo2 hcl2)) rfl rfl rfl ?_
                  refine gop_alloc (cs := #[.int .i64 0, .int .i64 0, .int .i64 0, .bool false, .bool false]) Try.zeroValue60 rfl rfl (fun b13 hb13 => ?_)
                  refine gop_store 4 (v := .agg #[_, _, _, _, _]) (cs' := #[_, _, _, _, _]) rfl rfl Try.sizeOf60 rfl rfl rfl rfl (Nat.le_of_ble_eq_true rfl) rfl rfl ?_
                  refine gops_nil ?_
                  refine hN16 _ _ ?_
                  refine gT [seal_ _ _, box b7 _, seal_ _ _, box b12 _, box b13 _] rfl ?_
                  refine gfrom [(0, .slice _ _ _), (1, .slice _ _ _), (5, .slice _ _ _), (6, .slice _ _ _), (7, .pointer _), (8, .int _ _), (9, .int _ _), (11, .slice _ _ _), (13, .pointer _)] ⟨rfl, rfl, rfl, rfl, rfl, rfl, rfl, rfl, rfl, trivial⟩ fun σ => ?_
                  refine gseq fun N17 hN17 => ?_
                  refine gseq fun N18 hN18 => ?_
                  refine greg_q (by kernel_rfl) (by kernel_rfl) ?_
                  refine gq (y_fieldAddr_box fa60_3 rfl) rfl rfl rfl ?_
                  refine gq (y_load Try.isAgg4 rfl (cell_box 4 rfl rfl)) rfl rfl rfl ?_
                  refine gq (y_not rfl) rfl rfl rfl ?_
                  refine gq (y_move (v := .bool _) rfl) rfl rfl rfl ?_
                  refine gq_if (want := true) rfl rfl rfl rfl rfl rfl (fun hg75 => ?_) (fun hg75 => ?_)
                  · -- guard 75 on
                    have hg75d := not_t hg75
                    obtain ⟨hs6, hs7, hs8⟩ := hs5 hg75d
                    refine gq (y_bare (y_fieldAddr_box fa60_1 rfl)) rfl rfl rfl ?_
                    refine gq_on rfl rfl rfl rfl hg75 ?_
                    refine gq (y_bare (y_load Try.isAgg3 rfl (cell_box 4 rfl rfl))) rfl rfl rfl ?_
                    refine gq_on rfl rfl rfl rfl hg75 ?_
                    refine gq (y_bare (y_lss rfl rfl)) rfl rfl rfl ?_
                    refine gq_on rfl rfl rfl rfl hg75 ?_
                    refine gq (y_bare (y_move (v := .bool _) rfl)) rfl rfl rfl ?_
                    refine gq_if (want := false) rfl rfl rfl rfl rfl rfl (fun hg79 => ?_) (fun hg79 => ?_)
                    · -- guard 79 on
                      have hg79d := of_decide_eq_false hg79
                      refine gq (y_bare (y_fieldAddr_box fa60_1 rfl)) rfl rfl rfl ?_
                      refine gq_on rfl rfl rfl rfl hg79 ?_
                      refine gq (y_bare (y_load Try.isAgg3 rfl (cell_box 4 rfl rfl))) rfl rfl rfl ?_
                      refine gq_on rfl rfl rfl rfl hg79 ?_
                      refine gq (y_bare (y_move (v := .slice _ _ _) rfl)) rfl rfl rfl ?_
                      refine gq_on rfl rfl rfl rfl hg79 ?_
                      refine gq (y_bare (y_len Try.underlying41 rfl)) rfl rfl rfl ?_
                      refine gq_on rfl rfl rfl rfl hg79 ?_
                      refine gq (y_bare (y_geq rfl rfl)) rfl rfl rfl ?_
                      refine gq_on rfl rfl rfl rfl hg75 ?_
                      refine gq (y_bare (y_pick_f (v := .bool _) rfl hg79 rfl)) rfl rfl rfl ?_
                      refine gq_on rfl rfl rfl rfl hg75 ?_
                      refine gq (y_bare (y_move (v := .bool _) rfl)) rfl rfl rfl ?_
                      refine gq_if (want := false) rfl rfl rfl rfl rfl rfl (fun hg86 => ?_) (fun hg86 => ?_)
                      · -- guard 86 on
                        have hg86d := of_decide_eq_false hg86
                        have hl3 : ((runV text (evs es)).2.1[opens (evs es) k].line).toNat < (runV text (evs es)).2.2.length := by omega
                        have hl4 : es[k].line.toNat < (runV text ((evs es).take k)).2.2.length := by omega
                        obtain ⟨ad3, rfl, hlo3, hcl3⟩ := hq17.at_ hl3
                        obtain ⟨ad4, rfl, hlo4, hcl4⟩ := hq45.at_ hl4
                        have hEq : (runV text (evs es)).2.2[((runV text (evs es)).2.1[opens (evs es) k].line).toNat] = (runV text ((evs es).take k)).2.2[es[k].line.toNat] := by rw [List.getElem?_eq_getElem hl3, List.getElem?_eq_getElem hl4] at hs8; exact Option.some.inj hs8
                        refine gq (y_bare (y_move (v := .slice _ _ _) rfl)) rfl rfl rfl ?_
                        refine gq_on rfl rfl rfl rfl hg86 ?_
                        refine gq (y_bare (y_fieldAddr_box fa60_1 rfl)) rfl rfl rfl ?_
                        refine gq_on rfl rfl rfl rfl hg86 ?_
                        refine gq (y_bare (y_load Try.isAgg3 rfl (cell_box 4 rfl rfl))) rfl rfl rfl ?_
                        refine gq_on rfl rfl rfl rfl hg86 ?_
                        refine gq (y_bare (y_indexAddr (m := ((runV text (evs es)).2.1[opens (evs es) k].line).toNat) Try.underlying41 Try.sizeOf9 rfl rfl (by omega) (by omega) (by omega))) rfl rfl rfl ?_
                        refine gq_on rfl rfl rfl rfl hg86 ?_
                        refine gq (y_bare (y_load Try.isAgg9 rfl (cell_seal 0 rfl (by rw [block_add]; exact hlo3) (hcl3 0 _ rfl)))) rfl rfl rfl ?_
                        refine gq_on rfl rfl rfl rfl hg86 ?_
                        refine gq (y_bare (y_move (v := .slice _ _ _) rfl)) rfl rfl rfl ?_
                        refine gq_on rfl rfl rfl rfl hg86 ?_
                        refine gq (y_bare (y_move (v := .slice _ _ _) rfl)) rfl rfl rfl ?_
                        refine gq_on rfl rfl rfl rfl hg86 ?_
                        refine gq (y_bare (y_move (v := .int _ _) rfl)) rfl rfl rfl ?_
                        refine gq_on rfl rfl rfl rfl hg86 ?_
                        refine gq (y_bare (y_indexAddr Try.underlying54 Try.sizeOf66 rfl rfl rfl (by omega) (by omega))) rfl rfl rfl ?_
                        refine gq_on rfl rfl rfl rfl hg86 ?_
                        refine gq (y_bare (y_fieldAddr_add fa66_3 rfl)) rfl rfl rfl ?_
                        refine gq_on rfl rfl rfl rfl hg86 ?_
                        refine gq (y_bare (y_load Try.isAgg3 rfl (cell_base (hcv 3 _ rfl)))) rfl rfl rfl ?_
                        refine gq_on rfl rfl rfl rfl hg86 ?_
                        refine gq (y_bare (y_indexAddr (m := es[k].line.toNat) Try.underlying41 Try.sizeOf9 rfl rfl (by omega) (by omega) (by omega))) rfl rfl rfl ?_
                        refine gq_on rfl rfl rfl rfl hg86 ?_
                        refine gq (y_bare (y_load Try.isAgg9 rfl (cell_seal 2 rfl (by rw [block_add]; exact hlo4) (hcl4 0 _ rfl)))) rfl rfl rfl ?_
                        refine gq_on rfl rfl rfl rfl hg86 ?_
                        refine gq (y_bare (y_neqs rfl rfl)) rfl rfl rfl ?_
                        refine gq_on rfl rfl rfl rfl hg75 ?_
                        refine gq (y_bare (y_pick_f (v := .bool _) rfl hg86 rfl)) rfl rfl rfl ?_
                        refine gq (y_pick_t (v := .bool _) rfl hg75 rfl) rfl rfl rfl ?_
                        refine gqs_nil ?_
                        refine hN18 _ _ ?_
                        refine gfrom [(0, .slice _ _ _), (1, .slice _ _ _), (5, .slice _ _ _), (6, .slice _ _ _), (7, .pointer _), (8, .int _ _), (9, .int _ _), (102, .bool _)] ⟨rfl, rfl, rfl, rfl, rfl, rfl, rfl, rfl, trivial⟩ fun σ => ?_
                        refine gcond (b := _) rfl (fun hc102 => ?_) (fun hc102 => ?_)
                        · -- slot 102 t
                          exact (ba_ne_t hc102 hEq).elim
                        · -- slot 102 f
                          refine gskip ?_
                          refine hN17 _ _ ?_
                          refine gfrom [(0, .slice _ _ _), (1, .slice _ _ _), (5, .slice _ _ _), (6, .slice _ _ _), (7, .pointer _), (8, .int _ _), (9, .int _ _)] ⟨rfl, rfl, rfl, rfl, rfl, rfl, rfl, trivial⟩ fun σ => ?_
                          refine greg ?_
                          refine gop (y_move (v := .int _ _) rfl) rfl rfl rfl ?_
                          refine gop (y_add rfl rfl ⟨by omega, by omega⟩) rfl rfl rfl ?_
                          refine gop (y_assign (v := .int _ _) rfl) rfl rfl rfl ?_
                          refine gops_nil ?_
                          refine hN10 _ _ ?_
                          refine gfrom [(0, .slice _ _ _), (1, .slice _ _ _), (5, .slice _ _ _), (6, .slice _ _ _), (7, .pointer _), (8, .int _ _), (9, .int _ _)] ⟨rfl, rfl, rfl, rfl, rfl, rfl, rfl, trivial⟩ fun σ => ?_
                          refine greg ?_
                          refine gop (y_move (v := .int _ _) rfl) rfl rfl rfl ?_
                          refine gop (y_add rfl rfl ⟨by omega, by omega⟩) rfl rfl rfl ?_
                          refine gop (y_assign (v := .int _ _) rfl) rfl rfl rfl ?_
                          refine gops_nil ?_
                          refine gnext2 (k + 1) (by omega) (show k + 1 ≤ _ by omega) ⟨(congrArg (Value.int .i64) (by rw [opens_yes hk2 (by rw [List.getElem_map]; exact hc39)]; rfl)), rfl, trivial⟩ ⟨rfl, rfl, rfl, rfl, rfl, trivial⟩ ⟨_, rfl⟩
                      · -- guard 86 off
                        exact absurd (of_decide_eq_true hg86) (by omega)
                    · -- guard 79 off
                      exact absurd (of_decide_eq_true hg79) (by omega)
                  · -- guard 75 off
                    have hg75d := not_f hg75
                    refine gq_off rfl rfl rfl rfl hg75 rfl rfl ?_
                    refine gq_off rfl rfl rfl rfl hg75 rfl rfl ?_
                    refine gq_off rfl rfl rfl rfl hg75 rfl rfl ?_
                    refine gq_offu rfl rfl rfl rfl rfl rfl ?_
                    refine gq_offu rfl rfl rfl rfl rfl rfl ?_
                    refine gq_offu rfl rfl rfl rfl rfl rfl ?_
                    refine gq_offu rfl rfl rfl rfl rfl rfl ?_
                    refine gq_offu rfl rfl rfl rfl rfl rfl ?_
                    refine gq_off rfl rfl rfl rfl hg75 rfl rfl ?_
                    refine gq_off rfl rfl rfl rfl hg75 rfl rfl ?_
                    refine gq_offu rfl rfl rfl rfl rfl rfl ?_
                    refine gq_offu rfl rfl rfl rfl rfl rfl ?_
                    refine gq_offu rfl rfl rfl rfl rfl rfl ?_
                    refine gq_offu rfl rfl rfl rfl rfl rfl ?_
                    refine gq_offu rfl rfl rfl rfl rfl rfl ?_
                    refine gq_offu rfl rfl rfl rfl rfl rfl ?_
                    refine gq_offu rfl rfl rfl rfl rfl rfl ?_
                    refine gq_offu rfl rfl rfl rfl rfl rfl ?_
                    refine gq_offu rfl rfl rfl rfl rfl rfl ?_
                    refine gq_offu rfl rfl rfl rfl rfl rfl ?_
                    refine gq_offu rfl rfl rfl rfl rfl rfl ?_
                    refine gq_offu rfl rfl rfl rfl rfl rfl ?_
                    refine gq_offu rfl rfl rfl rfl rfl rfl ?_
                    refine gq_offu rfl rfl rfl rfl rfl rfl ?_
                    refine gq_off rfl rfl rfl rfl hg75 rfl rfl ?_
                    refine gq (y_pick_f (v := .bool _) rfl hg75 rfl) rfl rfl rfl ?_
                    refine gqs_nil ?_
                    refine hN18 _ _ ?_
                    refine gfrom [(0, .slice _ _ _), (1, .slice _ _ _), (5, .slice _ _ _), (6, .slice _ _ _), (7, .pointer _), (8, .int _ _), (9, .int _ _), (102, .bool _)] ⟨rfl, rfl, rfl, rfl, rfl, rfl, rfl, rfl, trivial⟩ fun σ => ?_
                    refine gcond (b := _) rfl (fun hc102 => ?_) (fun hc102 => ?_)
                    · -- slot 102 t
                      cases hc102
                    · -- slot 102 f
                      refine gskip ?_
                      refine hN17 _ _ ?_
                      refine gfrom [(0, .slice _ _ _), (1, .slice _ _ _), (5, .slice _ _ _), (6, .slice _ _ _), (7, .pointer _), (8, .int _ _), (9, .int _ _)] ⟨rfl, rfl, rfl, rfl, rfl, rfl, rfl, trivial⟩ fun σ => ?_
                      refine greg ?_
                      refine gop (y_move (v := .int _ _) rfl) rfl rfl rfl ?_
                      refine gop (y_add rfl rfl ⟨by omega, by omega⟩) rfl rfl rfl ?_
                      refine gop (y_assign (v := .int _ _) rfl) rfl rfl rfl ?_
                      refine gops_nil ?_
                      refine hN10 _ _ ?_
                      refine gfrom [(0, .slice _ _ _), (1, .slice _ _ _), (5, .slice _ _ _), (6, .slice _ _ _), (7, .pointer _), (8, .int _ _), (9, .int _ _)] ⟨rfl, rfl, rfl, rfl, rfl, rfl, rfl, trivial⟩ fun σ => ?_
                      refine greg ?_
                      refine gop (y_move (v := .int _ _) rfl) rfl rfl rfl ?_
                      refine gop (y_add rfl rfl ⟨by omega, by omega⟩) rfl rfl rfl ?_
                      refine gop (y_assign (v := .int _ _) rfl) rfl rfl rfl ?_
                      refine gops_nil ?_
                      refine gnext2 (k + 1) (by omega) (show k + 1 ≤ _ by omega) ⟨(congrArg (Value.int .i64) (by rw [opens_yes hk2 (by rw [List.getElem_map]; exact hc39)]; rfl)), rfl, trivial⟩ ⟨rfl, rfl, rfl, rfl, rfl, trivial⟩ ⟨_, rfl⟩
              · -- guard 58 off
                exact absurd (of_decide_eq_true hg58) (by omega)
            · -- guard 52 off
              exact (of_decide_eq_true hg52 (by rw [hcut.1])).elim
        · -- slot 31 f
          replace hc31 := of_decide_eq_false hc31
          have hO : (runV text (evs es)).1.code = 0 → opens (evs es) k = (runV text (evs es)).2.1.length := fun h0 => by
            first
            | exact absurd h0 hg26d
            | (have hz := runV_code h0
               have h5 := (run_opens hz (evs es).length (Nat.le_refl _)).1
               rw [List.take_length] at h5
               rw [h5, show k = (evs es).length by simp; omega])
          refine gexit ?_
          refine hN6 _ _ ?_
          refine gfrom [(5, .slice _ _ _), (7, .pointer _), (8, .int _ _)] ⟨rfl, rfl, rfl, trivial⟩ fun σ => ?_
          refine gseq fun N19 hN19 => ?_
          refine greg ?_
          refine gop (y_fieldAddr_box fa27_0 rfl) rfl rfl rfl ?_
          refine gop (y_load Try.isAgg3 rfl (cell_box 1 rfl rfl)) rfl rfl rfl ?_
          refine gop (y_neq rfl rfl) rfl rfl rfl ?_
          refine gop (y_move (v := .bool _) rfl) rfl rfl rfl ?_
          refine gop_if (want := false) rfl rfl rfl rfl rfl rfl (fun hg108 => ?_) (fun hg108 => ?_)
          · -- guard 108 on
            have hg108d := Decidable.not_not.1 (of_decide_eq_false hg108)
            refine gop (y_bare (y_move (v := .int _ _) rfl)) rfl rfl rfl ?_
            refine gop_on rfl rfl rfl rfl hg108 ?_
            refine gop (y_bare (y_move (v := .slice _ _ _) rfl)) rfl rfl rfl ?_
            refine gop_on rfl rfl rfl rfl hg108 ?_
            refine gop (y_bare (y_len Try.underlying55 rfl)) rfl rfl rfl ?_
            refine gop_on rfl rfl rfl rfl hg108 ?_
            refine gop (y_bare (y_eql rfl rfl)) rfl rfl rfl ?_
            refine gop (y_pick_f (v := .bool _) rfl hg108 rfl) rfl rfl rfl ?_
            refine gop (y_assign (v := .bool _) rfl) rfl rfl rfl ?_
            refine gops_nil ?_
            refine hN19 _ _ ?_
            refine gfrom [(4, .bool _)] ⟨rfl, trivial⟩ fun σ => ?_
            refine gret fun w1 hM => ?_
            refine ⟨_, res1 rfl (rt (v := .bool _) rfl), ?_⟩
            first | exact ⟨by rw [hO hg108d]; simp, hM.low⟩ | exact ⟨rfl, hM.low⟩
          · -- guard 108 off
            have hg108d := of_decide_eq_true hg108
            refine gop_off rfl rfl rfl rfl hg108 rfl rfl ?_
            refine gop_off rfl rfl rfl rfl hg108 rfl rfl ?_
            refine gop_off rfl rfl rfl rfl hg108 rfl rfl ?_
            refine gop (y_pick_t (v := .bool _) rfl hg108 rfl) rfl rfl rfl ?_
            refine gop (y_assign (v := .bool _) rfl) rfl rfl rfl ?_
            refine gops_nil ?_
            refine hN19 _ _ ?_
            refine gfrom [(4, .bool _)] ⟨rfl, trivial⟩ fun σ => ?_
            refine gret fun w1 hM => ?_
            refine ⟨_, res1 rfl (rt (v := .bool _) rfl), ?_⟩
            first | exact ⟨by rw [hO hg108d]; simp, hM.low⟩ | exact ⟨rfl, hM.low⟩
      · -- guard 26 off
        have hg26d := of_decide_eq_false hg26
        refine gop_off rfl rfl rfl rfl hg26 rfl rfl ?_
        refine gop_off rfl rfl rfl rfl hg26 rfl rfl ?_
        refine gop_off rfl rfl rfl rfl hg26 rfl rfl ?_
        refine gop (y_pick_f (v := .bool _) rfl hg26 rfl) rfl rfl rfl ?_
        refine gops_nil ?_
        refine hN9 _ _ ?_
        refine gfrom [(0, .slice _ _ _), (1, .slice _ _ _), (5, .slice _ _ _), (6, .slice _ _ _), (7, .pointer _), (8, .int _ _), (9, .int _ _), (31, .bool _)] ⟨rfl, rfl, rfl, rfl, rfl, rfl, rfl, rfl, trivial⟩ fun σ => ?_
        refine gcond (b := _) rfl (fun hc31 => ?_) (fun hc31 => ?_)
        · -- slot 31 t
          cases hc31
        · -- slot 31 f
          have hO : (runV text (evs es)).1.code = 0 → opens (evs es) k = (runV text (evs es)).2.1.length := fun h0 => by
            first
            | exact absurd h0 hg26d
            | (have hz := runV_code h0
               have h5 := (run_opens hz (evs es).length (Nat.le_refl _)).1
               rw [List.take_length] at h5
               rw [h5, show k = (evs es).length by simp; omega])
          refine gexit ?_
          refine hN6 _ _ ?_
          refine gfrom [(5, .slice _ _ _), (7, .pointer _), (8, .int _ _)] ⟨rfl, rfl, rfl, trivial⟩ fun σ => ?_
          refine gseq fun N20 hN20 => ?_
          refine greg ?_
          refine gop (y_fieldAddr_box fa27_0 rfl) rfl rfl rfl ?_
          refine gop (y_load Try.isAgg3 rfl (cell_box 1 rfl rfl)) rfl rfl rfl ?_
          refine gop (y_neq rfl rfl) rfl rfl rfl ?_
          refine gop (y_move (v := .bool _) rfl) rfl rfl rfl ?_
          refine gop_if (want := false) rfl rfl rfl rfl rfl rfl (fun hg108 => ?_) (fun hg108 => ?_)
          · -- guard 108 on
            have hg108d := Decidable.not_not.1 (of_decide_eq_false hg108)
            refine gop (y_bare (y_move (v := .int _ _) rfl)) rfl rfl rfl ?_
            refine gop_on rfl rfl rfl rfl hg108 ?_
            refine gop (y_bare (y_move (v := .slice _ _ _) rfl)) rfl rfl rfl ?_
            refine gop_on rfl rfl rfl rfl hg108 ?_
            refine gop (y_bare (y_len Try.underlying55 rfl)) rfl rfl rfl ?_
            refine gop_on rfl rfl rfl rfl hg108 ?_
            refine gop (y_bare (y_eql rfl rfl)) rfl rfl rfl ?_
            refine gop (y_pick_f (v := .bool _) rfl hg108 rfl) rfl rfl rfl ?_
            refine gop (y_assign (v := .bool _) rfl) rfl rfl rfl ?_
            refine gops_nil ?_
            refine hN20 _ _ ?_
            refine gfrom [(4, .bool _)] ⟨rfl, trivial⟩ fun σ => ?_
            refine gret fun w1 hM => ?_
            refine ⟨_, res1 rfl (rt (v := .bool _) rfl), ?_⟩
            first | exact ⟨by rw [hO hg108d]; simp, hM.low⟩ | exact ⟨rfl, hM.low⟩
          · -- guard 108 off
            have hg108d := of_decide_eq_true hg108
            refine gop_off rfl rfl rfl rfl hg108 rfl rfl ?_
            refine gop_off rfl rfl rfl rfl hg108 rfl rfl ?_
            refine gop_off rfl rfl rfl rfl hg108 rfl rfl ?_
            refine gop (y_pick_t (v := .bool _) rfl hg108 rfl) rfl rfl rfl ?_
            refine gop (y_assign (v := .bool _) rfl) rfl rfl rfl ?_
            refine gops_nil ?_
            refine hN20 _ _ ?_
            refine gfrom [(4, .bool _)] ⟨rfl, trivial⟩ fun σ => ?_
            refine gret fun w1 hM => ?_
            refine ⟨_, res1 rfl (rt (v := .bool _) rfl), ?_⟩
            first | exact ⟨by rw [hO hg108d]; simp, hM.low⟩ | exact ⟨rfl, hM.low⟩
end Go.Proofs.Ytbaojdiccikbiaa
