/- walks, printed by program -/
import Derived.Test.YtbaojdiccikbiaaThlA
namespace Go.Proofs.Ytbaojdiccikbiaa
open Go.RowKit Go.Cf
set_option maxRecDepth 10000



theorem run_n (w : World) (B : Option Addr) (d : Nat) (text : List ByteArray) (ht : Rdl w 0 1 strCells B text) (htb : SB B text.length d 16) (E : Option Addr) (ec : Nat) (es : List EvC) (he : EvsR w 0 E es) (hem : es.length ≤ maxLen) (n : Nat) (hn : n = es.length) :
    Calls Try.prog 24 #[.slice B text.length d, .slice E n ec] w fun e w' => ∃ v1 v2, e = .returned (.tuple #[v1, v2, fv (runV text (evs es)).1]) ∧ Below w.heap.size w w' ∧ NewL 5 thrCells (runV text (evs es)).2.1 w.heap.size w' v1 ∧ NewL 1 strCells (runV text (evs es)).2.2 w.heap.size w' v2 := by
  subst hn; exact run_any w B d text ht htb E ec es he hem
set_option maxHeartbeats 2000000 in
theorem law17_any (w : World) (B : Option Addr) (d : Nat) (text : List ByteArray) (ht : Rdl w 0 1 strCells B text) (htb : SB B text.length d 16) (E : Option Addr) (ec : Nat) (es : List EvC) (he : EvsR w 0 E es) (hem : es.length ≤ maxLen) (hec : es.length ≤ ec) (n : Int) :
    Calls Try.prog 12 #[.slice B text.length d, .slice E es.length ec, .int .i64 n] w fun e w' => e = .returned (.bool true) ∧ Below w.heap.size w w' := by
  have hmx : maxLen = 9223372036854775807 := rfl
  have htc := htb.len
  have htm := htb.max
  refine gcalls Try.func12 rfl Try.ntmps12 (Nat.le_of_ble_eq_true rfl) ?_
  refine gfrom [(0, .slice _ _ _), (1, .slice _ _ _), (2, .int _ _)] ⟨rfl, rfl, rfl, trivial⟩ fun σ => ?_
  refine gseq fun N1 hN1 => ?_
  refine greg ?_
  refine gop (y_assign (v := .bool _) rfl) rfl rfl rfl ?_
  refine gops_nil ?_
  refine hN1 _ _ ?_
  refine gfrom [(0, .slice _ _ _), (1, .slice _ _ _), (2, .int _ _)] ⟨rfl, rfl, rfl, trivial⟩ fun σ => ?_
  refine gseq fun N2 hN2 => ?_
  refine gseq fun N3 hN3 => ?_
  refine greg ?_
  refine gop_pure (e_call (vs := []) Try.func27 rfl (by kernel_rfl) rfl) (fun w hM => threadsExample_any w) rfl rfl rfl ?_
  refine gop (y_not rfl) rfl rfl rfl ?_
  refine gops_nil ?_
  refine hN3 _ _ ?_
  refine gfrom [(0, .slice _ _ _), (1, .slice _ _ _), (2, .int _ _), (15, .bool _)] ⟨rfl, rfl, rfl, rfl, trivial⟩ fun σ => ?_
  refine gcond (b := _) rfl (fun hc15 => ?_) (fun hc15 => ?_)
  · -- slot 15 t
    simp at hc15
  · -- slot 15 f
    replace hc15 := not_f hc15
    refine gskip ?_
    refine hN2 _ _ ?_
    refine gfrom [(0, .slice _ _ _), (1, .slice _ _ _), (2, .int _ _)] ⟨rfl, rfl, rfl, trivial⟩ fun σ => ?_
    refine gseq fun N4 hN4 => ?_
    refine gseq fun N5 hN5 => ?_
    refine greg ?_
    refine gop (y_move (v := .int _ _) rfl) rfl rfl rfl ?_
    refine gop (y_lss rfl rfl) rfl rfl rfl ?_
    refine gop (y_move (v := .bool _) rfl) rfl rfl rfl ?_
    refine gop_if (want := false) rfl rfl rfl rfl rfl rfl (fun hg18 => ?_) (fun hg18 => ?_)
    · -- guard 18 on
      have hg18d := of_decide_eq_false hg18
      refine gop (y_bare (y_move (v := .int _ _) rfl)) rfl rfl rfl ?_
      refine gop_on rfl rfl rfl rfl hg18 ?_
      refine gop (y_bare (y_move (v := .slice _ _ _) rfl)) rfl rfl rfl ?_
      refine gop_on rfl rfl rfl rfl hg18 ?_
      refine gop (y_bare (y_len Try.underlying54 rfl)) rfl rfl rfl ?_
      refine gop_on rfl rfl rfl rfl hg18 ?_
      refine gop (y_bare (y_gtr rfl rfl)) rfl rfl rfl ?_
      refine gop (y_pick_f (v := .bool _) rfl hg18 rfl) rfl rfl rfl ?_
      refine gops_nil ?_
      refine hN5 _ _ ?_
      refine gfrom [(0, .slice _ _ _), (1, .slice _ _ _), (2, .int _ _), (23, .bool _)] ⟨rfl, rfl, rfl, rfl, trivial⟩ fun σ => ?_
      refine gcond (b := _) rfl (fun hc23 => ?_) (fun hc23 => ?_)
      · -- slot 23 t
        replace hc23 := of_decide_eq_true hc23
        refine gseq fun N6 hN6 => ?_
        refine greg ?_
        refine gop (y_assign (v := .bool _) rfl) rfl rfl rfl ?_
        refine gops_nil ?_
        refine hN6 _ _ ?_
        refine gfrom [(6, .bool _)] ⟨rfl, trivial⟩ fun σ => ?_
        refine gret fun w1 hM => ?_
        refine ⟨_, res1 rfl (rt (v := .bool _) rfl), ?_⟩
        exact ⟨rfl, hM.low⟩
      · -- slot 23 f
        replace hc23 := of_decide_eq_false hc23
        obtain ⟨m, rfl⟩ := Int.eq_ofNat_of_zero_le (show 0 ≤ n by omega)
        have hml : m ≤ es.length := by omega
        refine gskip ?_
        refine hN4 _ _ ?_
        refine gfrom [(0, .slice _ _ _), (1, .slice _ _ _), (2, .int _ _)] ⟨rfl, rfl, rfl, trivial⟩ fun σ => ?_
        refine gseq fun N7 hN7 => ?_
        refine greg ?_
        refine gop (y_move (v := .slice _ _ _) rfl) rfl rfl rfl ?_
        refine gop (y_move (v := .slice _ _ _) rfl) rfl rfl rfl ?_
        refine gop (y_move (v := .int _ _) rfl) rfl rfl rfl ?_
        refine gop (y_slice_hi Try.underlying54 Try.sizeOf66 rfl rfl (by omega) (by omega)) rfl rfl rfl ?_
        refine gop_new (fun lo ws v => ∃ v1 v2, v = .tuple #[v1, v2, fv (runV text ((evs es).take m)).1] ∧ NewL 5 thrCells (runV text ((evs es).take m)).2.1 lo ws v1 ∧ NewL 1 strCells (runV text ((evs es).take m)).2.2 lo ws v2) (e_call (vs := [.slice _ _ _, .slice _ _ _]) Try.func24 rfl (by kernel_rfl) rfl) (fun w hM => by have hc := run_n w B d text (ht.base hM) htb _ (ec - 0) (es.take m) (EvsR.lasts.base (he.cut (k := m) (by omega) hec) hM) (by simp; omega) (m - 0) (by simp; omega); rw [show evs (es.take m) = (evs es).take m from List.map_take] at hc; exact hc.mono fun _ _ ⟨v1, v2, h1, h2, h3, h4⟩ => ⟨_, h1, h2, v1, v2, rfl, h3, h4⟩) rfl rfl rfl ?_
        rintro _ lo29 ws29 hlo29 ⟨_, _, rfl, ⟨A29, c29, rfl, hcc29, hcm29, hr29⟩, ⟨B29, d29, rfl, hdc29, hdm29, hq29⟩⟩
        refine gop (y_move (v := .tuple #[.slice _ _ _, .slice _ _ _, .agg #[_, _]]) rfl) rfl rfl rfl ?_
        refine gop (y_extract (v := .slice _ _ _) rfl rfl) rfl rfl rfl ?_
        refine gop (y_extract (v := .slice _ _ _) rfl rfl) rfl rfl rfl ?_
        refine gop (y_extract (v := .agg #[_, _]) rfl rfl) rfl rfl rfl ?_
        refine gop_alloc (cs := #[.int .i64 0, .int .i64 0]) Try.zeroValue27 rfl rfl (fun b9 hb9 => ?_)
        refine gop (y_assign (v := .slice _ _ _) rfl) rfl rfl rfl ?_
        refine gop (y_assign (v := .slice _ _ _) rfl) rfl rfl rfl ?_
        refine gop_store 1 (v := .agg #[_, _]) (cs' := #[_, _]) rfl rfl Try.sizeOf27 rfl rfl rfl rfl (Nat.le_of_ble_eq_true rfl) rfl rfl ?_
        refine gops_nil ?_
        refine hN7 _ _ ?_
        refine gT [seal_ _ _, box b9 _] rfl ?_
        refine gfrom [(0, .slice _ _ _), (1, .slice _ _ _), (7, .slice _ _ _), (9, .pointer _)] ⟨rfl, rfl, rfl, rfl, trivial⟩ fun σ => ?_
        refine gseq fun N8 hN8 => ?_
        refine greg ?_
        refine gop (y_move (v := .slice _ _ _) rfl) rfl rfl rfl ?_
        refine gop (y_move (v := .slice _ _ _) rfl) rfl rfl rfl ?_
        refine gop_new (fun lo ws v => ∃ v1 v2, v = .tuple #[v1, v2, fv (runV text (evs es)).1] ∧ NewL 5 thrCells (runV text (evs es)).2.1 lo ws v1 ∧ NewL 1 strCells (runV text (evs es)).2.2 lo ws v2) (e_call (vs := [.slice _ _ _, .slice _ _ _]) Try.func24 rfl (by kernel_rfl) rfl) (fun w hM => by have hc := run_any w B d text (ht.base hM) htb E ec es (EvsR.lasts.base he hM) hem; exact hc.mono fun _ _ ⟨v1, v2, h1, h2, h3, h4⟩ => ⟨_, h1, h2, v1, v2, rfl, h3, h4⟩) rfl rfl rfl ?_
        rintro _ lo36 ws36 hlo36 ⟨_, _, rfl, ⟨A36, c36, rfl, hcc36, hcm36, hr36⟩, ⟨B36, d36, rfl, hdc36, hdm36, hq36⟩⟩
        refine gop (y_move (v := .tuple #[.slice _ _ _, .slice _ _ _, .agg #[_, _]]) rfl) rfl rfl rfl ?_
        refine gop (y_extract (v := .slice _ _ _) rfl rfl) rfl rfl rfl ?_
        refine gop (y_extract (v := .slice _ _ _) rfl rfl) rfl rfl rfl ?_
        refine gop (y_extract (v := .agg #[_, _]) rfl rfl) rfl rfl rfl ?_
        refine gop_alloc (cs := #[.int .i64 0, .int .i64 0]) Try.zeroValue27 rfl rfl (fun b12 hb12 => ?_)
        refine gop (y_assign (v := .slice _ _ _) rfl) rfl rfl rfl ?_
        refine gop (y_assign (v := .slice _ _ _) rfl) rfl rfl rfl ?_
        refine gop_store 3 (v := .agg #[_, _]) (cs' := #[_, _]) rfl rfl Try.sizeOf27 rfl rfl rfl rfl (Nat.le_of_ble_eq_true rfl) rfl rfl ?_
        refine gops_nil ?_
        refine hN8 _ _ ?_
        refine gT [seal_ _ _, box b9 _, seal_ _ _, box b12 _] rfl ?_
        refine gfrom [(7, .slice _ _ _), (9, .pointer _), (10, .slice _ _ _), (12, .pointer _)] ⟨rfl, rfl, rfl, rfl, trivial⟩ fun σ => ?_
        refine gseq fun N9 hN9 => ?_
        refine gseq fun N10 hN10 => ?_
        refine greg ?_
        refine gop (y_fieldAddr_box fa27_0 rfl) rfl rfl rfl ?_
        refine gop (y_load Try.isAgg3 rfl (cell_box 1 rfl rfl)) rfl rfl rfl ?_
        refine gop (y_neq rfl rfl) rfl rfl rfl ?_
        refine gop (y_move (v := .bool _) rfl) rfl rfl rfl ?_
        refine gop_if (want := false) rfl rfl rfl rfl rfl rfl (fun hg43 => ?_) (fun hg43 => ?_)
        · -- guard 43 on
          have hg43d := Decidable.not_not.1 (of_decide_eq_false hg43)
          refine gop (y_bare (y_fieldAddr_box fa27_0 rfl)) rfl rfl rfl ?_
          refine gop_on rfl rfl rfl rfl hg43 ?_
          refine gop (y_bare (y_load Try.isAgg3 rfl (cell_box 3 rfl rfl))) rfl rfl rfl ?_
          refine gop_on rfl rfl rfl rfl hg43 ?_
          refine gop (y_bare (y_neq rfl rfl)) rfl rfl rfl ?_
          refine gop (y_pick_f (v := .bool _) rfl hg43 rfl) rfl rfl rfl ?_
          refine gops_nil ?_
          refine hN10 _ _ ?_
          refine gfrom [(7, .slice _ _ _), (10, .slice _ _ _), (12, .pointer _), (47, .bool _)] ⟨rfl, rfl, rfl, rfl, trivial⟩ fun σ => ?_
          refine gcond (b := _) rfl (fun hc47 => ?_) (fun hc47 => ?_)
          · -- slot 47 t
            replace hc47 := of_decide_eq_true hc47
            have hE2 : (runV text (evs es)).1.code ≠ 0 := by first | (intro h0; exact hg43d (by rw [(run_cut (runV_code h0) (n := m) (by simpa using hml)).1])) | exact hc47
            refine gseq fun N11 hN11 => ?_
            refine greg ?_
            refine gop (y_fieldAddr_box fa27_0 rfl) rfl rfl rfl ?_
            refine gop (y_load Try.isAgg3 rfl (cell_box 3 rfl rfl)) rfl rfl rfl ?_
            refine gop (y_neq rfl rfl) rfl rfl rfl ?_
            refine gop (y_assign (v := .bool _) rfl) rfl rfl rfl ?_
            refine gops_nil ?_
            refine hN11 _ _ ?_
            refine gfrom [(6, .bool _)] ⟨rfl, trivial⟩ fun σ => ?_
            refine gret fun w1 hM => ?_
            refine ⟨_, res1 rfl (rt (v := .bool _) rfl), ?_⟩
            exact ⟨by rw [decide_eq_true hE2], hM.low⟩
          · -- slot 47 f
            replace hc47 := Decidable.not_not.1 (of_decide_eq_false hc47)
            have hz := runV_code hc47
            obtain ⟨_, hri1, _, hlat⟩ := run_cut hz (n := m) (by simpa using hml)
            refine gskip ?_
            refine hN9 _ _ ?_
            refine gfrom [(7, .slice _ _ _), (10, .slice _ _ _)] ⟨rfl, rfl, trivial⟩ fun σ => ?_
            refine gseq fun N12 hN12 => ?_
            refine gseq fun N13 hN13 => ?_
            refine greg ?_
            refine gop (y_assign (v := .int _ _) rfl) rfl rfl rfl ?_
            refine gops_nil ?_
            refine hN13 _ _ ?_
            refine gfrom [(7, .slice _ _ _), (10, .slice _ _ _), (13, .int _ _)] ⟨rfl, rfl, rfl, trivial⟩ fun σ => ?_
            refine gblock ?_
            refine gfrom2 [(13, .int _ _)] [(7, .slice _ _ _), (10, .slice _ _ _)] ⟨rfl, trivial⟩ ⟨rfl, rfl, trivial⟩ fun σ => ?_
            refine gloop2 (G := Nat) (fun k => k ≤ (runV text ((evs es).take m)).2.1.length) (fun k => (runV text ((evs es).take m)).2.1.length - k) (fun k => [(13, .int .i64 (k : Int))]) (fun k => []) (0) ?h0 ⟨rfl, trivial⟩ ⟨rfl, rfl, trivial⟩ rfl ?round
            case h0 => exact Nat.zero_le _
            case round =>
              intro k hφ σ
              have hk := hφ
              refine gseq fun N14 hN14 => ?_
              refine gseq fun N15 hN15 => ?_
              refine greg ?_
              refine gop (y_move (v := .int _ _) rfl) rfl rfl rfl ?_
              refine gop (y_move (v := .slice _ _ _) rfl) rfl rfl rfl ?_
              refine gop (y_len Try.underlying55 rfl) rfl rfl rfl ?_
              refine gop (y_lss rfl rfl) rfl rfl rfl ?_
              refine gops_nil ?_
              refine hN15 _ _ ?_
              refine gfrom [(7, .slice _ _ _), (10, .slice _ _ _), (13, .int _ _), (54, .bool _)] ⟨rfl, rfl, rfl, rfl, trivial⟩ fun σ => ?_
              refine gcond (b := _) rfl (fun hc54 => ?_) (fun hc54 => ?_)
              · -- slot 54 t
                replace hc54 := of_decide_eq_true hc54
                have hk1 : k < (runV text ((evs es).take m)).2.1.length := by omega
                obtain ⟨t2, ht2, hus, hou, -⟩ := hlat.each k _ (List.getElem?_eq_getElem hk1)
                have hlt : k < (runV text (evs es)).2.1.length := (List.getElem?_eq_some_iff.1 ht2).1
                have hgt : (runV text (evs es)).2.1[k] = t2 := (List.getElem?_eq_some_iff.1 ht2).2
                obtain ⟨ad, rfl, hlo1, hcl1⟩ := hr29.at_ hk1
                obtain ⟨ad2, rfl, hlo2, hcl2⟩ := hr36.at_ hlt
                refine gskip ?_
                refine hN14 _ _ ?_
                refine gfrom [(7, .slice _ _ _), (10, .slice _ _ _), (13, .int _ _)] ⟨rfl, rfl, rfl, trivial⟩ fun σ => ?_
                refine gseq fun N16 hN16 => ?_
                refine gblock ?_
                refine gseq fun N17 hN17 => ?_
                refine greg_q (by kernel_rfl) (by kernel_rfl) ?_
                refine gq (y_move (v := .int _ _) rfl) rfl rfl rfl ?_
                refine gq (y_move (v := .slice _ _ _) rfl) rfl rfl rfl ?_
                refine gq (y_len Try.underlying55 rfl) rfl rfl rfl ?_
                refine gq (y_geq rfl rfl) rfl rfl rfl ?_
                refine gq (y_move (v := .bool _) rfl) rfl rfl rfl ?_
                refine gq_if (want := false) rfl rfl rfl rfl rfl rfl (fun hg61 => ?_) (fun hg61 => ?_)
                · -- guard 61 on
                  have hg61d := of_decide_eq_false hg61
                  refine gq (y_bare (y_move (v := .slice _ _ _) rfl)) rfl rfl rfl ?_
                  refine gq_on rfl rfl rfl rfl hg61 ?_
                  refine gq (y_bare (y_move (v := .int _ _) rfl)) rfl rfl rfl ?_
                  refine gq_on rfl rfl rfl rfl hg61 ?_
                  refine gq (y_bare (y_indexAddr Try.underlying55 Try.sizeOf60 rfl rfl rfl (by omega) (by omega))) rfl rfl rfl ?_
                  refine gq_on rfl rfl rfl rfl hg61 ?_
                  refine gq (y_bare (y_fieldAddr_add fa60_0 rfl)) rfl rfl rfl ?_
                  refine gq_on rfl rfl rfl rfl hg61 ?_
                  refine gq (y_bare (y_load Try.isAgg3 rfl (cell_seal 0 rfl (by rw [block_add]; exact hlo1) (hcl1 0 _ rfl)))) rfl rfl rfl ?_
                  refine gq_on rfl rfl rfl rfl hg61 ?_
                  refine gq (y_bare (y_move (v := .slice _ _ _) rfl)) rfl rfl rfl ?_
                  refine gq_on rfl rfl rfl rfl hg61 ?_
                  refine gq (y_bare (y_move (v := .int _ _) rfl)) rfl rfl rfl ?_
                  refine gq_on rfl rfl rfl rfl hg61 ?_
                  refine gq (y_bare (y_indexAddr Try.underlying55 Try.sizeOf60 rfl rfl rfl (by omega) (by omega))) rfl rfl rfl ?_
                  refine gq_on rfl rfl rfl rfl hg61 ?_
                  refine gq (y_bare (y_fieldAddr_add fa60_0 rfl)) rfl rfl rfl ?_
                  refine gq_on rfl rfl rfl rfl hg61 ?_
                  refine gq (y_bare (y_load Try.isAgg3 rfl (cell_seal 2 rfl (by rw [block_add]; exact hlo2) (hcl2 0 _ rfl)))) rfl rfl rfl ?_
                  refine gq_on rfl rfl rfl rfl hg61 ?_
                  refine gq (y_bare (y_neq rfl rfl)) rfl rfl rfl ?_
                  refine gq (y_pick_f (v := .bool _) rfl hg61 rfl) rfl rfl rfl ?_
                  refine gq (y_move (v := .bool _) rfl) rfl rfl rfl ?_
                  refine gq_if (want := false) rfl rfl rfl rfl rfl rfl (fun hg74 => ?_) (fun hg74 => ?_)
                  · -- guard 74 on
                    have hg74d := Decidable.not_not.1 (of_decide_eq_false hg74)
                    refine gq (y_bare (y_move (v := .slice _ _ _) rfl)) rfl rfl rfl ?_
                    refine gq_on rfl rfl rfl rfl hg74 ?_
                    refine gq (y_bare (y_move (v := .int _ _) rfl)) rfl rfl rfl ?_
                    refine gq_on rfl rfl rfl rfl hg74 ?_
                    refine gq (y_bare (y_indexAddr Try.underlying55 Try.sizeOf60 rfl rfl rfl (by omega) (by omega))) rfl rfl rfl ?_
                    refine gq_on rfl rfl rfl rfl hg74 ?_
                    refine gq (y_bare (y_fieldAddr_add fa60_3 rfl)) rfl rfl rfl ?_
                    refine gq_on rfl rfl rfl rfl hg74 ?_
                    refine gq (y_bare (y_load Try.isAgg4 rfl (cell_seal 0 rfl (by rw [block_add]; exact hlo1) (hcl1 3 _ rfl)))) rfl rfl rfl ?_
                    refine gq_on rfl rfl rfl rfl hg74 ?_
                    refine gq (y_bare (y_move (v := .bool _) rfl)) rfl rfl rfl ?_
                    refine gq_if (want := true) rfl rfl rfl rfl rfl rfl (fun hg80 => ?_) (fun hg80 => ?_)
                    · -- guard 80 on
                      have hg80d := hg80
                      refine gq (y_bare (y_move (v := .slice _ _ _) rfl)) rfl rfl rfl ?_
                      refine gq_on rfl rfl rfl rfl hg80 ?_
                      refine gq (y_bare (y_move (v := .int _ _) rfl)) rfl rfl rfl ?_
                      refine gq_on rfl rfl rfl rfl hg80 ?_
                      refine gq (y_bare (y_indexAddr Try.underlying55 Try.sizeOf60 rfl rfl rfl (by omega) (by omega))) rfl rfl rfl ?_
                      refine gq_on rfl rfl rfl rfl hg80 ?_
                      refine gq (y_bare (y_fieldAddr_add fa60_3 rfl)) rfl rfl rfl ?_
                      refine gq_on rfl rfl rfl rfl hg80 ?_
                      refine gq (y_bare (y_load Try.isAgg4 rfl (cell_seal 2 rfl (by rw [block_add]; exact hlo2) (hcl2 3 _ rfl)))) rfl rfl rfl ?_
                      refine gq_on rfl rfl rfl rfl hg80 ?_
                      refine gq (y_bare (y_not rfl)) rfl rfl rfl ?_
                      refine gq_on rfl rfl rfl rfl hg80 ?_
                      refine gq (y_bare (y_move (v := .bool _) rfl)) rfl rfl rfl ?_
                      refine gq_if (want := false) rfl rfl rfl rfl rfl rfl (fun hg87 => ?_) (fun hg87 => ?_)
                      · -- guard 87 on
                        have hg87d := not_f hg87
                        refine gq (y_bare (y_move (v := .slice _ _ _) rfl)) rfl rfl rfl ?_
                        refine gq_on rfl rfl rfl rfl hg87 ?_
                        refine gq (y_bare (y_move (v := .int _ _) rfl)) rfl rfl rfl ?_
                        refine gq_on rfl rfl rfl rfl hg87 ?_
                        refine gq (y_bare (y_indexAddr Try.underlying55 Try.sizeOf60 rfl rfl rfl (by omega) (by omega))) rfl rfl rfl ?_
                        refine gq_on rfl rfl rfl rfl hg87 ?_
                        refine gq (y_bare (y_fieldAddr_add fa60_1 rfl)) rfl rfl rfl ?_
                        refine gq_on rfl rfl rfl rfl hg87 ?_
                        refine gq (y_bare (y_load Try.isAgg3 rfl (cell_seal 0 rfl (by rw [block_add]; exact hlo1) (hcl1 1 _ rfl)))) rfl rfl rfl ?_
                        refine gq_on rfl rfl rfl rfl hg87 ?_
                        refine gq (y_bare (y_move (v := .slice _ _ _) rfl)) rfl rfl rfl ?_
                        refine gq_on rfl rfl rfl rfl hg87 ?_
                        refine gq (y_bare (y_move (v := .int _ _) rfl)) rfl rfl rfl ?_
                        refine gq_on rfl rfl rfl rfl hg87 ?_
                        refine gq (y_bare (y_indexAddr Try.underlying55 Try.sizeOf60 rfl rfl rfl (by omega) (by omega))) rfl rfl rfl ?_
                        refine gq_on rfl rfl rfl rfl hg87 ?_
                        refine gq (y_bare (y_fieldAddr_add fa60_1 rfl)) rfl rfl rfl ?_
                        refine gq_on rfl rfl rfl rfl hg87 ?_
                        refine gq (y_bare (y_load Try.isAgg3 rfl (cell_seal 2 rfl (by rw [block_add]; exact hlo2) (hcl2 1 _ rfl)))) rfl rfl rfl ?_
                        refine gq_on rfl rfl rfl rfl hg87 ?_
                        refine gq (y_bare (y_neq rfl rfl)) rfl rfl rfl ?_
                        refine gq_on rfl rfl rfl rfl hg80 ?_
                        refine gq (y_bare (y_pick_f (v := .bool _) rfl hg87 rfl)) rfl rfl rfl ?_
                        refine gq_on rfl rfl rfl rfl hg74 ?_
                        refine gq (y_bare (y_pick_t (v := .bool _) rfl hg80 rfl)) rfl rfl rfl ?_
                        refine gq (y_pick_f (v := .bool _) rfl hg74 rfl) rfl rfl rfl ?_
                        refine gqs_nil ?_
                        refine hN17 _ _ ?_
                        refine gfrom [(7, .slice _ _ _), (10, .slice _ _ _), (13, .int _ _), (101, .bool _)] ⟨rfl, rfl, rfl, rfl, trivial⟩ fun σ => ?_
                        refine gcond (b := _) rfl (fun hc101 => ?_) (fun hc101 => ?_)
                        · -- slot 101 t
                          exact (of_decide_eq_true hc101 (by rw [hgt]; exact (hou hg80d).2.symm)).elim
                        · -- slot 101 f
                          replace hc101 := Decidable.not_not.1 (of_decide_eq_false hc101)
                          refine gskip ?_
                          refine hN16 _ _ ?_
                          refine gfrom [(7, .slice _ _ _), (10, .slice _ _ _), (13, .int _ _)] ⟨rfl, rfl, rfl, trivial⟩ fun σ => ?_
                          refine greg ?_
                          refine gop (y_move (v := .int _ _) rfl) rfl rfl rfl ?_
                          refine gop (y_add rfl rfl ⟨by omega, by omega⟩) rfl rfl rfl ?_
                          refine gop (y_assign (v := .int _ _) rfl) rfl rfl rfl ?_
                          refine gops_nil ?_
                          refine gnext2 (k + 1) (by omega) (show k + 1 ≤ _ by omega) ⟨rfl, trivial⟩ ⟨rfl, rfl, trivial⟩ ⟨_, rfl⟩
                      · -- guard 87 off
                        rw [hgt, (hou hg80d).1] at hg87; cases hg87
                    · -- guard 80 off
                      have hg80d := hg80
                      refine gq_off rfl rfl rfl rfl hg80 rfl rfl ?_
                      refine gq_off rfl rfl rfl rfl hg80 rfl rfl ?_
                      refine gq_off rfl rfl rfl rfl hg80 rfl rfl ?_
                      refine gq_off rfl rfl rfl rfl hg80 rfl rfl ?_
                      refine gq_off rfl rfl rfl rfl hg80 rfl rfl ?_
                      refine gq_off rfl rfl rfl rfl hg80 rfl rfl ?_
                      refine gq_offu rfl rfl rfl rfl rfl rfl ?_
                      refine gq_offu rfl rfl rfl rfl rfl rfl ?_
                      refine gq_offu rfl rfl rfl rfl rfl rfl ?_
                      refine gq_offu rfl rfl rfl rfl rfl rfl ?_
                      refine gq_offu rfl rfl rfl rfl rfl rfl ?_
                      refine gq_offu rfl rfl rfl rfl rfl rfl ?_
                      refine gq_offu rfl rfl rfl rfl rfl rfl ?_
                      refine gq_offu rfl rfl rfl rfl rfl rfl ?_
                      refine gq_offu rfl rfl rfl rfl rfl rfl ?_
                      refine gq_offu rfl rfl rfl rfl rfl rfl ?_
                      refine gq_offu rfl rfl rfl rfl rfl rfl ?_
                      refine gq_off rfl rfl rfl rfl hg80 rfl rfl ?_
                      refine gq_on rfl rfl rfl rfl hg74 ?_
                      refine gq (y_bare (y_pick_f (v := .bool _) rfl hg80 rfl)) rfl rfl rfl ?_
                      refine gq (y_pick_f (v := .bool _) rfl hg74 rfl) rfl rfl rfl ?_
                      refine gqs_nil ?_
                      refine hN17 _ _ ?_
                      refine gfrom [(7, .slice _ _ _), (10, .slice _ _ _), (13, .int _ _), (101, .bool _)] ⟨rfl, rfl, rfl, rfl, trivial⟩ fun σ => ?_
                      refine gcond (b := _) rfl (fun hc101 => ?_) (fun hc101 => ?_)
                      · -- slot 101 t
                        cases hc101
                      · -- slot 101 f
                        refine gskip ?_
                        refine hN16 _ _ ?_
                        refine gfrom [(7, .slice _ _ _), (10, .slice _ _ _), (13, .int _ _)] ⟨rfl, rfl, rfl, trivial⟩ fun σ => ?_
                        refine greg ?_
                        refine gop (y_move (v := .int _ _) rfl) rfl rfl rfl ?_
                        refine gop (y_add rfl rfl ⟨by omega, by omega⟩) rfl rfl rfl ?_
                        refine gop (y_assign (v := .int _ _) rfl) rfl rfl rfl ?_
                        refine gops_nil ?_
                        refine gnext2 (k + 1) (by omega) (show k + 1 ≤ _ by omega) ⟨rfl, trivial⟩ ⟨rfl, rfl, trivial⟩ ⟨_, rfl⟩
                  · -- guard 74 off
                    exact (of_decide_eq_true hg74 (by rw [hgt]; exact hus.symm)).elim
                · -- guard 61 off
                  exact absurd (of_decide_eq_true hg61) (by omega)
              · -- slot 54 f
                replace hc54 := of_decide_eq_false hc54
                refine gexit ?_
                refine hN12 _ _ ?_
                refine gfrom [] trivial fun σ => ?_
                refine gseq fun N18 hN18 => ?_
                refine greg ?_
                refine gop (y_assign (v := .bool _) rfl) rfl rfl rfl ?_
                refine gops_nil ?_
                refine hN18 _ _ ?_
                refine gfrom [(6, .bool _)] ⟨rfl, trivial⟩ fun σ => ?_
                refine gret fun w1 hM => ?_
                refine ⟨_, res1 rfl (rt (v := .bool _) rfl), ?_⟩
                exact ⟨rfl, hM.low⟩
        · -- guard 43 off
          have hg43d := of_decide_eq_true hg43
          refine gop_off rfl rfl rfl rfl hg43 rfl rfl ?_
          refine gop_off rfl rfl rfl rfl hg43 rfl rfl ?_
          refine gop (y_pick_t (v := .bool _) rfl hg43 rfl) rfl rfl rfl ?_
          refine gops_nil ?_
          refine hN10 _ _ ?_
          refine gfrom [(7, .slice _ _ _), (10, .slice _ _ _), (12, .pointer _), (47, .bool _)] ⟨rfl, rfl, rfl, rfl, trivial⟩ fun σ => ?_
          refine gcond (b := _) rfl (fun hc47 => ?_) (fun hc47 => ?_)
          · -- slot 47 t
            have hE2 : (runV text (evs es)).1.code ≠ 0 := by first | (intro h0; exact hg43d (by rw [(run_cut (runV_code h0) (n := m) (by simpa using hml)).1])) | exact hc47
            refine gseq fun N19 hN19 => ?_
            refine greg ?_
            refine gop (y_fieldAddr_box fa27_0 rfl) rfl rfl rfl ?_
            refine gop (y_load Try.isAgg3 rfl (cell_box 3 rfl rfl)) rfl rfl rfl ?_
            refine gop (y_neq rfl rfl) rfl rfl rfl ?_
            refine gop (y_assign (v := .bool _) rfl) rfl rfl rfl ?_
            refine gops_nil ?_
            refine hN19 _ _ ?_
            refine gfrom [(6, .bool _)] ⟨rfl, trivial⟩ fun σ => ?_
            refine gret fun w1 hM => ?_
            refine ⟨_, res1 rfl (rt (v := .bool _) rfl), ?_⟩
            exact ⟨by rw [decide_eq_true hE2], hM.low⟩
          · -- slot 47 f
            cases hc47
    · -- guard 18 off
      have hg18d := of_decide_eq_true hg18
      refine gop_off rfl rfl rfl rfl hg18 rfl rfl ?_
      refine gop_off rfl rfl rfl rfl hg18 rfl rfl ?_
      refine gop_off rfl rfl rfl rfl hg18 rfl rfl ?_
      refine gop (y_pick_t (v := .bool _) rfl hg18 rfl) rfl rfl rfl ?_
      refine gops_nil ?_
      refine hN5 _ _ ?_
      refine gfrom [(0, .slice _ _ _), (1, .slice _ _ _), (2, .int _ _), (23, .bool _)] ⟨rfl, rfl, rfl, rfl, trivial⟩ fun σ => ?_
      refine gcond (b := _) rfl (fun hc23 => ?_) (fun hc23 => ?_)
      · -- slot 23 t
        refine gseq fun N20 hN20 => ?_
        refine greg ?_
        refine gop (y_assign (v := .bool _) rfl) rfl rfl rfl ?_
        refine gops_nil ?_
        refine hN20 _ _ ?_
        refine gfrom [(6, .bool _)] ⟨rfl, trivial⟩ fun σ => ?_
        refine gret fun w1 hM => ?_
        refine ⟨_, res1 rfl (rt (v := .bool _) rfl), ?_⟩
        exact ⟨rfl, hM.low⟩
      · -- slot 23 f
        cases hc23
end Go.Proofs.Ytbaojdiccikbiaa
