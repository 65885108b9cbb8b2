/-
  TopBuildStepsAreOrdered: for all build rules the law returns true (the tied card: what the two tables of rules read as when the call begins).
-/
import Derived.Test.YtlmhppnbcbadbaaDoorP11b
import Derived.Carry
import Derived.ChangeOld
import Derived.Deep.CondSized
import Derived.Deep.DeepHandedRow
import Derived.Deep.DeepWitnessRowRef
import Derived.Deep.Slices
import Derived.LaidLaws
import Derived.Lib.LaidTab
import Derived.MakeChecks
import Derived.OpenShut
import Derived.ProofKit
import Derived.SizedLaws
import Derived.Stop.LaidErr
import Derived.Test.YtlmhppnbcbadbaaDoorCards
import Derived.Test.YtlmhppnbcbadbaaDoorRows
import Derived.Test.YtlmhppnbcbadbaaDoorTie
namespace Go.Proofs.YtlmhppnbcbadbaaDoor
open Go.RowKit Go.Cf
set_option maxRecDepth 10000
theorem bd30_0 (x1 : Int) : Tryd.prog.built 30 [(0, .int .i64 x1)] = some #[.int .i64 x1, .slice none 0 0] := by kernel_rfl
theorem fa25_0 (a : Addr) (w : World) : (Instr.fieldAt 25 (.pointer (some a)) 0).run Tryd.prog w = .ok (.pointer (some (a.add 0))) w := by kernel_rfl
theorem fa36_1 (a : Addr) (w : World) : (Instr.fieldAt 36 (.pointer (some a)) 1).run Tryd.prog w = .ok (.pointer (some (a.add 1))) w := by kernel_rfl
set_option maxHeartbeats 16000000 in
theorem law11_any (w : World) (B : Option Addr) (bc : Nat) (rs : List RuleC) (hR : RusR w 0 B rs) (hBn : rs.length ≤ maxLen) (hL : LaidK w) : Calls Tryd.prog 3 #[.slice B rs.length bc] w fun e w' => e = .returned (.bool true) ∧ Below w.heap.size w w' := by
  have hmx : maxLen = 9223372036854775807 := rfl
  refine gcalls Tryd.func3 rfl Tryd.ntmps3 (Nat.le_of_ble_eq_true rfl) ?_
  refine gfrom [(0, .slice _ _ _)] ⟨rfl, trivial⟩ fun σ => ?_
  refine gseq fun N1 hN1 => ?_
  refine greg ?_
  refine gop (y_assign (v := .bool _) rfl) rfl rfl rfl ?_
  refine gops_nil ?_
  refine hN1 _ _ ?_
  refine gfrom [(0, .slice _ _ _)] ⟨rfl, trivial⟩ fun σ => ?_
  refine gseq fun N2 hN2 => ?_
  refine greg ?_
  refine gop (y_build (vs := [(0, _)]) (cells := #[_, .slice none 0 0]) rfl (bd30_0 _)) rfl rfl rfl ?_
  refine gop_lit (vs := [.agg #[_, _]]) (cells := #[_, _]) Tryd.underlying22 Tryd.sizeOf30 Tryd.zeroValue30 rfl (by decide) (by decide) rfl rfl rfl rfl (fun b19 hb19 => ?_)
  refine gop_got (fun v T' => ∃ lo u ss fr idx, w.heap.size ≤ lo ∧ v = .tuple #[u, fv ⟨0, idx⟩] ∧ T' = [rowl stepCells lo 36 3 (u) (ss), fr] ∧ ss.length = 1) (e_call (vs := [.slice (some _) _ _]) Tryd.func4 rfl (by kernel_rfl) rfl) (fun w hM => by have hr : RusR w 0 (some ⟨b19, 0, none⟩) [⟨⟨1, []⟩, none, 0⟩] := ⟨Rdl.mono (Rdl.of_box 0 (f := ruleCells) (fun _ => rfl) hM rfl rfl) (Nat.zero_le _), fun r hr => by obtain rfl := List.mem_singleton.1 hr; exact ⟨Rdl.nil, Nat.zero_le _⟩⟩; have hc := rulesExpand_any w _ 1 [⟨⟨1, []⟩, none, 0⟩] hr (by simp [maxLen]) (hL.base hM); exact hc.mono fun _ _ ⟨v, T1, ss, fr, code, idx, h1, h2, h3, h4, h5, h6, h7, h8⟩ => (by obtain ⟨rfl, h9⟩ := h6 (by simp) (fun r hr => by obtain rfl := List.mem_singleton.1 hr; exact ⟨rfl, rfl⟩); exact ⟨_, T1, h1, ⟨_, v, ss, fr, idx, hM.low.size, rfl, h2, h9⟩, h8⟩)) rfl rfl rfl ?_
  rintro _ _ ⟨lo20, u20, ss0, fr0, idx0, hlo20, rfl, rfl, hs0⟩
  refine gops_fact (fun w hM => row_form (hM.ok _ (List.mem_of_getElem? (i := 1) rfl))) ?_
  rintro ⟨A20, c20, rfl, hc20, hm20, hn20⟩
  refine gop (y_move (v := .tuple #[.slice A20 _ c20, .agg #[_, _]]) rfl) rfl rfl rfl ?_
  refine gop (y_extract (v := .slice _ _ _) rfl rfl) rfl rfl rfl ?_
  refine gop (y_extract (v := .agg #[_, _]) rfl rfl) rfl rfl rfl ?_
  refine gop_alloc (cs := #[.int .i64 0, .int .i64 0]) Tryd.zeroValue25 rfl rfl (fun b4 hb4 => ?_)
  refine gop (y_assign (v := .slice _ _ _) rfl) rfl rfl rfl ?_
  refine gop_store 3 (v := .agg #[_, _]) (cs' := #[_, _]) rfl rfl Tryd.sizeOf25 rfl rfl rfl rfl (Nat.le_of_ble_eq_true rfl) rfl rfl ?_
  refine gops_nil ?_
  refine hN2 _ _ ?_
  refine gT [box b19 _, rowl _ _ _ _ _ _, fr0, box b4 _] rfl ?_
  refine gfrom [(0, .slice _ _ _), (3, .slice _ _ _), (4, .pointer _)] ⟨rfl, rfl, rfl, trivial⟩ fun σ => ?_
  refine gseq fun N3 hN3 => ?_
  refine greg ?_
  refine gop_lit (vs := [.slice _ _ _]) (cells := #[_]) Tryd.underlying33 Tryd.sizeOf28 Tryd.zeroValue28 rfl (by decide) (by decide) rfl rfl rfl rfl (fun b24 hb24 => ?_)
  refine gop_got (fun v T' => ∃ lo u, v = .tuple #[u, fv ⟨0, 0⟩] ∧ w.heap.size ≤ lo ∧ T' = [rowl intCells lo 3 1 (u) (rangeI 1)]) (e_call (vs := [.slice (some _) _ _]) Tryd.func5 rfl (by kernel_rfl) rfl) (fun w hM => by have hd : DepsR w 0 (some ⟨b24, 0, none⟩) [⟨[], none, 0⟩] := ⟨Rdl.mono (Rdl.of_box 4 (f := lcCells) (fun _ => rfl) hM rfl rfl) (Nat.zero_le _), fun a ha => by obtain rfl := List.mem_singleton.1 ha; exact ⟨Rdl.nil⟩⟩; have hc := dgOrder_any w _ 1 [⟨[], none, 0⟩] hd (by simp) (by simp [maxLen]) down_one; exact hc.mono fun _ _ ⟨v, T1, h1, h2, h3⟩ => ⟨_, T1, h1, ⟨_, v, rfl, hM.low.size, h2⟩, h3⟩) rfl rfl rfl ?_
  rintro _ _ ⟨lo25, u25, rfl, hlo25, rfl⟩
  refine gops_fact (fun w hM => row_form (hM.ok _ (List.mem_of_getElem? (i := 5) rfl))) ?_
  rintro ⟨A25, c25, rfl, hc25, hm25, hn25⟩
  refine gop (y_move (v := .tuple #[.slice A25 _ c25, .agg #[_, _]]) rfl) rfl rfl rfl ?_
  refine gop (y_extract (v := .slice _ _ _) rfl rfl) rfl rfl rfl ?_
  refine gop (y_extract (v := .agg #[_, _]) rfl rfl) rfl rfl rfl ?_
  refine gop_alloc (cs := #[.int .i64 0, .int .i64 0]) Tryd.zeroValue25 rfl rfl (fun b6 hb6 => ?_)
  refine gop (y_assign (v := .slice _ _ _) rfl) rfl rfl rfl ?_
  refine gop_store 6 (v := .agg #[_, _]) (cs' := #[_, _]) rfl rfl Tryd.sizeOf25 rfl rfl rfl rfl (Nat.le_of_ble_eq_true rfl) rfl rfl ?_
  refine gops_nil ?_
  refine hN3 _ _ ?_
  refine gT [box b19 _, rowl _ _ _ _ _ _, fr0, box b4 _, box b24 _, rowl _ _ _ _ _ _, box b6 _] rfl ?_
  refine gfrom [(0, .slice _ _ _), (3, .slice _ _ _), (4, .pointer _), (5, .slice _ _ _), (6, .pointer _)] ⟨rfl, rfl, rfl, rfl, rfl, trivial⟩ fun σ => ?_
  refine gseq fun N4 hN4 => ?_
  refine gseq fun N5 hN5 => ?_
  refine greg ?_
  refine gop (y_fieldAddr_box fa25_0 rfl) rfl rfl rfl ?_
  refine gop (y_load Tryd.isAgg3 rfl (cell_box 3 rfl rfl)) rfl rfl rfl ?_
  refine gop (y_neq rfl rfl) rfl rfl rfl ?_
  refine gop (y_move (v := .bool _) rfl) rfl rfl rfl ?_
  refine gop_if (want := false) rfl rfl rfl rfl rfl rfl (fun hg31 => ?_) (fun hg31 => ?_)
  · 
    have hg31d := Decidable.not_not.1 (of_decide_eq_false hg31)
    refine gop (y_bare (y_fieldAddr_box fa25_0 rfl)) rfl rfl rfl ?_
    refine gop_on rfl rfl rfl rfl hg31 ?_
    refine gop (y_bare (y_load Tryd.isAgg3 rfl (cell_box 6 rfl rfl))) rfl rfl rfl ?_
    refine gop_on rfl rfl rfl rfl hg31 ?_
    refine gop (y_bare (y_neq rfl rfl)) rfl rfl rfl ?_
    refine gop (y_pick_f (v := .bool _) rfl hg31 rfl) rfl rfl rfl ?_
    refine gop (y_move (v := .bool _) rfl) rfl rfl rfl ?_
    refine gop_if (want := false) rfl rfl rfl rfl rfl rfl (fun hg36 => ?_) (fun hg36 => ?_)
    · 
      have hg36d := Decidable.not_not.1 (of_decide_eq_false hg36)
      refine gop (y_bare (y_move (v := .slice _ _ _) rfl)) rfl rfl rfl ?_
      refine gop_on rfl rfl rfl rfl hg36 ?_
      refine gop (y_bare (y_len Tryd.underlying23 rfl)) rfl rfl rfl ?_
      refine gop_on rfl rfl rfl rfl hg36 ?_
      refine gop (y_bare (y_neq rfl rfl)) rfl rfl rfl ?_
      refine gop (y_pick_f (v := .bool _) rfl hg36 rfl) rfl rfl rfl ?_
      refine gop (y_move (v := .bool _) rfl) rfl rfl rfl ?_
      refine gop_if (want := false) rfl rfl rfl rfl rfl rfl (fun hg41 => ?_) (fun hg41 => ?_)
      · 
        have hg41d := Decidable.not_not.1 (of_decide_eq_false hg41)
        refine gop (y_bare (y_move (v := .slice _ _ _) rfl)) rfl rfl rfl ?_
        refine gop_on rfl rfl rfl rfl hg41 ?_
        refine gop_lit (vs := [.int _ _]) (cells := #[_]) Tryd.underlying28 Tryd.sizeOf3 Tryd.zeroValue3 rfl (by decide) (by decide) rfl rfl rfl rfl (fun b43 hb43 => ?_)
        refine gop_on rfl rfl rfl rfl hg41 ?_
        refine gop_pure (e_call (vs := [.slice _ _ _, .slice (some _) _ _]) Tryd.func6 rfl (by kernel_rfl) rfl) (fun w hM => refInts_any w A25 _ c25 1 (rangeI 1) [0] ((row_rdl (f := intCells) (fun _ => rfl) (hM.ok _ (List.mem_of_getElem? (i := 5) rfl))).mono (Nat.zero_le _)) (Rdl.mono (Rdl.of_box 7 (f := intCells) (fun _ => rfl) hM rfl rfl) (Nat.zero_le _)) (by rw [rangeI_len]; simp [maxLen])) rfl rfl rfl ?_
        refine gop_on rfl rfl rfl rfl hg41 ?_
        refine gop (y_bare (y_not rfl)) rfl rfl rfl ?_
        refine gop (y_pick_f (v := .bool _) rfl hg41 rfl) rfl rfl rfl ?_
        refine gops_nil ?_
        refine hN5 _ _ ?_
        refine gT [box b19 _, rowl _ _ _ _ _ _, fr0, box b4 _, box b24 _, rowl _ _ _ _ _ _, box b6 _, box b43 _] rfl ?_
        refine gfrom [(0, .slice _ _ _), (46, .bool _)] ⟨rfl, rfl, trivial⟩ fun σ => ?_
        refine gcond (b := _) rfl (fun hc46 => ?_) (fun hc46 => ?_)
        · 
           exact absurd hc46 (by decide)
        · 
          replace hc46 := not_f hc46
          refine gskip ?_
          refine hN4 _ _ ?_
          refine gfrom [(0, .slice _ _ _)] ⟨rfl, trivial⟩ fun σ => ?_
          refine gseq fun N6 hN6 => ?_
          refine greg ?_
          refine gop (y_move (v := .slice _ _ _) rfl) rfl rfl rfl ?_
          refine gop_got (fun v T' => ∃ lo u ss fr code idx, w.heap.size ≤ lo ∧ v = .tuple #[u, fv ⟨code, idx⟩] ∧ T' = [rowl stepCells lo 36 3 (u) (ss), fr] ∧ (∀ w1, fr.ok w1 → ∀ s ∈ ss, SCX w1 w.heap.size s) ∧ (∀ i (h : i < ss.length), SOk i ss[i].pl.kind ss[i].pl.ins) ∧ (code ≠ 0 → ss = []) ∧ ss.length ≤ 30) (e_call (vs := [.slice _ _ _]) Tryd.func4 rfl (by kernel_rfl) rfl) (fun w hM => by have hc := rulesExpand_any w _ bc rs (hR.base hM) hBn (hL.base hM); exact hc.mono fun _ _ ⟨v, T1, ss, fr, code, idx, h1, h2, h3, h4, h5, h6, h7, h8⟩ => ⟨_, T1, h1, ⟨_, v, ss, fr, code, idx, hM.low.size, rfl, h2, fun w1 ho a ha => (h3 w1 ho a ha).mono hM.low.size, h4, h5, h7⟩, h8⟩) rfl rfl rfl ?_
          rintro _ _ ⟨lo49, u49, ss, fr, code, idx, hlo49, rfl, rfl, hfr, hsok, hnil, hs30⟩
          refine gops_fact (fun w hM => row_form (hM.ok _ (List.mem_of_getElem? (i := 8) rfl))) ?_
          rintro ⟨A49, c49, rfl, hc49, hm49, hn49⟩
          refine gops_fact (Φ := 0 < (ss).length → ∃ g, A49 = some ⟨g, 0, none⟩) (fun w hM h9 => row_g (hM.ok _ (List.mem_of_getElem? (i := 8) rfl)) h9) ?_
          intro hg49
          refine gop (y_move (v := .tuple #[.slice A49 _ c49, .agg #[_, _]]) rfl) rfl rfl rfl ?_
          refine gop (y_extract (v := .slice _ _ _) rfl rfl) rfl rfl rfl ?_
          refine gop (y_extract (v := .agg #[_, _]) rfl rfl) rfl rfl rfl ?_
          refine gop_alloc (cs := #[.int .i64 0, .int .i64 0]) Tryd.zeroValue25 rfl rfl (fun b8 hb8 => ?_)
          refine gop (y_assign (v := .slice _ _ _) rfl) rfl rfl rfl ?_
          refine gop_store 10 (v := .agg #[_, _]) (cs' := #[_, _]) rfl rfl Tryd.sizeOf25 rfl rfl rfl rfl (Nat.le_of_ble_eq_true rfl) rfl rfl ?_
          refine gops_nil ?_
          refine hN6 _ _ ?_
          refine gT [box b19 _, rowl _ _ _ _ _ _, fr0, box b4 _, box b24 _, rowl _ _ _ _ _ _, box b6 _, box b43 _, rowl _ _ _ _ _ _, fr, box b8 _] rfl ?_
          refine gfrom [(7, .slice _ _ _), (8, .pointer _)] ⟨rfl, rfl, trivial⟩ fun σ => ?_
          refine gseq fun N7 hN7 => ?_
          refine gseq fun N8 hN8 => ?_
          refine greg ?_
          refine gop (y_fieldAddr_box fa25_0 rfl) rfl rfl rfl ?_
          refine gop (y_load Tryd.isAgg3 rfl (cell_box 10 rfl rfl)) rfl rfl rfl ?_
          refine gop (y_neq rfl rfl) rfl rfl rfl ?_
          refine gop (y_move (v := .bool _) rfl) rfl rfl rfl ?_
          refine gop_if (want := false) rfl rfl rfl rfl rfl rfl (fun hg55 => ?_) (fun hg55 => ?_)
          · 
            have hg55d := Decidable.not_not.1 (of_decide_eq_false hg55)
            refine gop (y_bare (y_move (v := .slice _ _ _) rfl)) rfl rfl rfl ?_
            refine gop_on rfl rfl rfl rfl hg55 ?_
            refine gop (y_bare (y_len Tryd.underlying23 rfl)) rfl rfl rfl ?_
            refine gop_on rfl rfl rfl rfl hg55 ?_
            refine gop (y_bare (y_gtr rfl rfl)) rfl rfl rfl ?_
            refine gop (y_pick_f (v := .bool _) rfl hg55 rfl) rfl rfl rfl ?_
            refine gops_nil ?_
            refine hN8 _ _ ?_
            refine gfrom [(7, .slice _ _ _), (8, .pointer _), (59, .bool _)] ⟨rfl, rfl, rfl, trivial⟩ fun σ => ?_
            refine gcond (b := _) rfl (fun hc59 => ?_) (fun hc59 => ?_)
            · 
              replace hc59 := of_decide_eq_true hc59
              refine gseq fun N9 hN9 => ?_
              refine greg ?_
              refine gop (y_fieldAddr_box fa25_0 rfl) rfl rfl rfl ?_
              refine gop (y_load Tryd.isAgg3 rfl (cell_box 10 rfl rfl)) rfl rfl rfl ?_
              refine gop (y_eql rfl rfl) rfl rfl rfl ?_
              refine gop (y_move (v := .bool _) rfl) rfl rfl rfl ?_
              refine gop_if (want := false) rfl rfl rfl rfl rfl rfl (fun hg63 => ?_) (fun hg63 => ?_)
              · 
                have hg63d := of_decide_eq_false hg63
                refine gop (y_bare (y_move (v := .slice _ _ _) rfl)) rfl rfl rfl ?_
                refine gop_on rfl rfl rfl rfl hg63 ?_
                refine gop (y_bare (y_len Tryd.underlying23 rfl)) rfl rfl rfl ?_
                refine gop_on rfl rfl rfl rfl hg63 ?_
                refine gop (y_bare (y_eql rfl rfl)) rfl rfl rfl ?_
                refine gop (y_pick_f (v := .bool _) rfl hg63 rfl) rfl rfl rfl ?_
                refine gop (y_assign (v := .bool _) rfl) rfl rfl rfl ?_
                refine gops_nil ?_
                refine hN9 _ _ ?_
                refine gfrom [(2, .bool _)] ⟨rfl, trivial⟩ fun σ => ?_
                refine gret fun w1 hM => ?_
                refine ⟨_, res1 rfl (rt (v := .bool _) rfl), ?_⟩
                first | exact ⟨rfl, hM.low⟩ | exact ⟨by rw [decide_eq_true (show (ss.length : Int) = 0 by rw [hnil (by omega)]; rfl)], hM.low⟩
              · 
                have hg63d := of_decide_eq_true hg63
                refine gop_off rfl rfl rfl rfl hg63 rfl rfl ?_
                refine gop_off rfl rfl rfl rfl hg63 rfl rfl ?_
                refine gop (y_pick_t (v := .bool _) rfl hg63 rfl) rfl rfl rfl ?_
                refine gop (y_assign (v := .bool _) rfl) rfl rfl rfl ?_
                refine gops_nil ?_
                refine hN9 _ _ ?_
                refine gfrom [(2, .bool _)] ⟨rfl, trivial⟩ fun σ => ?_
                refine gret fun w1 hM => ?_
                refine ⟨_, res1 rfl (rt (v := .bool _) rfl), ?_⟩
                first | exact ⟨rfl, hM.low⟩ | exact ⟨by rw [decide_eq_true (show (ss.length : Int) = 0 by rw [hnil (by omega)]; rfl)], hM.low⟩
            · 
              replace hc59 := of_decide_eq_false hc59
              have h24 : ss.length ≤ 24 := by omega
              have hdl := depsTo_len ss
              have hdown := down_steps hsok h24
              refine gskip ?_
              refine hN7 _ _ ?_
              refine gfrom [(7, .slice _ _ _)] ⟨rfl, trivial⟩ fun σ => ?_
              refine gseq fun N10 hN10 => ?_
              refine greg ?_
              refine gop (y_assign (v := .slice _ _ _) rfl) rfl rfl rfl ?_
              refine gops_nil ?_
              refine hN10 _ _ ?_
              refine gfrom [(7, .slice _ _ _), (9, .slice _ _ _)] ⟨rfl, rfl, trivial⟩ fun σ => ?_
              refine gseq fun N11 hN11 => ?_
              refine greg ?_
              refine gop (y_assign (v := .slice _ _ _) rfl) rfl rfl rfl ?_
              refine gops_nil ?_
              refine hN11 _ _ ?_
              refine gfrom [(7, .slice _ _ _), (9, .slice _ _ _), (10, .slice _ _ _)] ⟨rfl, rfl, rfl, trivial⟩ fun σ => ?_
              refine gseq fun N12 hN12 => ?_
              refine gseq fun N13 hN13 => ?_
              refine greg ?_
              refine gop (y_assign (v := .int _ _) rfl) rfl rfl rfl ?_
              refine gops_nil ?_
              refine hN13 _ _ ?_
              refine gfrom [(7, .slice _ _ _), (9, .slice _ _ _), (10, .slice _ _ _), (11, .int _ _)] ⟨rfl, rfl, rfl, rfl, trivial⟩ fun σ => ?_
              refine gblock ?_
              refine gnilrow lcCells 28 1 ?_
              refine gnilrow intCells 3 1 ?_
              refine gfrom2 [(9, .slice _ _ _), (10, .slice _ _ _), (11, .int _ _)] [(7, .slice _ _ _)] ⟨rfl, rfl, rfl, trivial⟩ ⟨rfl, trivial⟩ fun σ => ?_
              refine gloop2 (G := Nat × Option Addr × Nat × Option Addr × Nat) (fun (k, Dv, dc, Wv, wc) => k ≤ ss.length) (fun (k, Dv, dc, Wv, wc) => ss.length - k) (fun (k, Dv, dc, Wv, wc) => [(9, .slice Dv (depsTo ss k).length dc), (10, .slice Wv (rangeI k).length wc), (11, .int .i64 (k : Int))]) (fun (k, Dv, dc, Wv, wc) => [(11, rowl lcCells w.heap.size 28 1 (.slice Dv (depsTo ss k).length dc) (depsTo ss k)), (12, rowl intCells w.heap.size 3 1 (.slice Wv (rangeI k).length wc) (rangeI k))]) ((0, none, 0, none, 0)) ?h0 ⟨rfl, rfl, rfl, trivial⟩ ⟨rfl, trivial⟩ rfl ?round
              case h0 => exact Nat.zero_le _
              case round =>
                rintro ⟨k, Dv, dc, Wv, wc⟩ hφ σ
                have hk : k ≤ ss.length := hφ
                refine gT [box b19 _, rowl _ _ _ _ _ _, fr0, box b4 _, box b24 _, rowl _ _ _ _ _ _, box b6 _, box b43 _, rowl _ _ _ _ _ _, fr, box b8 _, rowl _ _ _ _ _ _, rowl _ _ _ _ _ _] rfl ?_
                refine gseq fun N14 hN14 => ?_
                refine gseq fun N15 hN15 => ?_
                refine greg ?_
                refine gop (y_move (v := .int _ _) rfl) rfl rfl rfl ?_
                refine gop (y_move (v := .slice _ _ _) rfl) rfl rfl rfl ?_
                refine gop (y_len Tryd.underlying23 rfl) rfl rfl rfl ?_
                refine gop (y_lss rfl rfl) rfl rfl rfl ?_
                refine gops_nil ?_
                refine hN15 _ _ ?_
                refine gfrom [(7, .slice _ _ _), (9, .slice Dv _ dc), (10, .slice Wv _ wc), (11, .int _ _), (71, .bool _)] ⟨rfl, rfl, rfl, rfl, rfl, trivial⟩ fun σ => ?_
                refine gcond (b := _) rfl (fun hc71 => ?_) (fun hc71 => ?_)
                · 
                  replace hc71 := of_decide_eq_true hc71
                  have hk1 : k < ss.length := by omega
                  obtain ⟨g49, rfl⟩ := hg49 (by omega)
                  refine gskip ?_
                  refine hN14 _ _ ?_
                  refine gfrom [(7, .slice _ _ _), (9, .slice Dv _ dc), (10, .slice Wv _ wc), (11, .int _ _)] ⟨rfl, rfl, rfl, rfl, trivial⟩ fun σ => ?_
                  refine gseq fun N16 hN16 => ?_
                  refine gblock ?_
                  refine gseq fun N17 hN17 => ?_
                  refine greg ?_
                  refine gop (y_move (v := .slice Dv _ dc) rfl) rfl rfl rfl ?_
                  refine gop (y_move (v := .slice _ _ _) rfl) rfl rfl rfl ?_
                  refine gop (y_move (v := .int _ _) rfl) rfl rfl rfl ?_
                  refine gop (y_indexAddr (m := k) Tryd.underlying23 Tryd.sizeOf36 rfl rfl (by omega) (by omega) (by omega)) rfl rfl rfl ?_
                  refine gop (y_fieldAddr_add fa36_2 rfl) rfl rfl rfl ?_
                  refine gop (y_load Tryd.isAgg28 rfl (cells_rowl 8 (f := stepCells) (l := ss) rfl rfl (fun _ => rfl) (List.getElem?_eq_getElem hk1) 2 _ rfl)) rfl rfl rfl ?_
                  refine gop_lit (vs := [.slice _ _ _]) (cells := #[_]) Tryd.underlying33 Tryd.sizeOf28 Tryd.zeroValue28 rfl (by decide) (by decide) rfl rfl rfl rfl (fun b80 hb80 => ?_)
                  refine gop_append 11 (f := lcCells) (l2 := [toLC ss[k]]) Tryd.underlying33 el28 wide_lc (v := .slice Dv _ dc) rfl rfl rfl rfl (fun h => by cases h) (by simp [maxLen, depsTo]; omega) (by simp [depsTo]; omega) (src_box 13 rfl rfl) rfl (fun v81 => ?_)
                  refine gops_fact (fun w hM => own_form (hM.own 11 rfl)) ?_
                  rintro ⟨A81, c81, rfl, hc81, hm81⟩
                  refine gop (y_assign (v := .slice A81 _ c81) rfl) rfl rfl rfl ?_
                  refine gops_nil ?_
                  refine hN17 _ _ ?_
                  refine gT [box b19 _, rowl _ _ _ _ _ _, fr0, box b4 _, box b24 _, rowl _ _ _ _ _ _, box b6 _, box b43 _, rowl _ _ _ _ _ _, fr, box b8 _, rowl _ _ _ _ _ _, rowl _ _ _ _ _ _, box b80 _] rfl ?_
                  refine gfrom [(7, .slice _ _ _), (9, .slice A81 _ c81), (10, .slice Wv _ wc), (11, .int _ _)] ⟨rfl, rfl, rfl, rfl, trivial⟩ fun σ => ?_
                  refine greg ?_
                  refine gop (y_move (v := .slice Wv _ wc) rfl) rfl rfl rfl ?_
                  refine gop (y_move (v := .int _ _) rfl) rfl rfl rfl ?_
                  refine gop_lit (vs := [.int _ _]) (cells := #[_]) Tryd.underlying28 Tryd.sizeOf3 Tryd.zeroValue3 rfl (by decide) (by decide) rfl rfl rfl rfl (fun b84 hb84 => ?_)
                  refine gop_append 12 (f := intCells) (l2 := [(k : Int)]) Tryd.underlying28 el3 wide_int (v := .slice Wv _ wc) rfl rfl rfl rfl (fun h => by cases h) (by simp [maxLen, rangeI_len]; omega) (by simp [rangeI_len]; omega) (src_box 14 rfl rfl) rfl (fun v85 => ?_)
                  refine gops_fact (fun w hM => own_form (hM.own 12 rfl)) ?_
                  rintro ⟨A85, c85, rfl, hc85, hm85⟩
                  refine gop (y_assign (v := .slice A85 _ c85) rfl) rfl rfl rfl ?_
                  refine gops_nil ?_
                  refine hN16 _ _ ?_
                  refine gT [box b19 _, rowl _ _ _ _ _ _, fr0, box b4 _, box b24 _, rowl _ _ _ _ _ _, box b6 _, box b43 _, rowl _ _ _ _ _ _, fr, box b8 _, rowl _ _ _ _ _ _, rowl _ _ _ _ _ _, box b80 _, box b84 _] rfl ?_
                  refine gfrom [(7, .slice _ _ _), (9, .slice A81 _ c81), (10, .slice A85 _ c85), (11, .int _ _)] ⟨rfl, rfl, rfl, rfl, trivial⟩ fun σ => ?_
                  refine greg ?_
                  refine gop (y_move (v := .int _ _) rfl) rfl rfl rfl ?_
                  refine gop (y_add rfl rfl ⟨by omega, by omega⟩) rfl rfl rfl ?_
                  refine gop (y_assign (v := .int _ _) rfl) rfl rfl rfl ?_
                  refine gops_nil ?_
                  rw [← depsTo_succ hk1]
                  refine gnext2 ((k + 1, A81, c81, A85, c85)) (by show ss.length - (k + 1) < ss.length - k; omega) (show k + 1 ≤ _ by omega) ⟨(by rw [depsTo_succ hk1]; rfl), rfl, rfl, trivial⟩ ⟨rfl, trivial⟩ ⟨_, rfl⟩
                · 
                  replace hc71 := of_decide_eq_false hc71
                  have hke : k = ss.length := by omega
                  subst hke
                  refine g_fact (fun w hM => row_form (hM.ok _ (List.mem_of_getElem? (i := 11) rfl))) ?_
                  rintro ⟨A9, c9, hv9, hcD, hmD, hnD⟩
                  simp only [Value.slice.injEq] at hv9
                  obtain ⟨rfl, -, rfl⟩ := hv9
                  have hrl := rangeI_len ss.length
                  have hlv := levTo_len (ll (depsTo ss ss.length)) (depsTo ss ss.length).length
                  refine gexit ?_
                  refine hN12 _ _ ?_
                  refine gfrom [(7, .slice _ _ _), (9, .slice Dv _ dc), (10, .slice Wv _ wc)] ⟨rfl, rfl, rfl, trivial⟩ fun σ => ?_
                  refine gseq fun N18 hN18 => ?_
                  refine greg ?_
                  refine gop (y_move (v := .slice Dv _ dc) rfl) rfl rfl rfl ?_
                  refine gop_got (fun v T' => ∃ lo u, v = .tuple #[u, fv ⟨0, 0⟩] ∧ w.heap.size ≤ lo ∧ T' = [rowl intCells lo 3 1 (u) (rangeI ss.length)]) (e_call (vs := [.slice Dv _ dc]) Tryd.func5 rfl (by kernel_rfl) rfl) (fun w hM => by have hd : DepsR w 0 Dv (depsTo ss ss.length) := ⟨(row_rdl (f := lcCells) (fun _ => rfl) (hM.ok _ (List.mem_of_getElem? (i := 11) rfl))).mono (Nat.zero_le _), fun a ha => by obtain ⟨s, hs, rfl⟩ := depsTo_mem ha; exact ⟨(hfr _ (hM.ok _ (List.mem_of_getElem? (i := 9) rfl)) s hs).rd.mono (Nat.zero_le _)⟩⟩; have hc := dgOrder_any w _ _ (depsTo ss ss.length) hd hcD hmD hdown; exact hc.mono fun _ _ ⟨v, T1, h1, h2, h3⟩ => ⟨_, T1, h1, ⟨w.heap.size, v, rfl, hM.low.size, by rw [h2, hdl]⟩, h3⟩) rfl rfl rfl ?_
                  rintro _ _ ⟨lo88, u88, rfl, hlo88, rfl⟩
                  refine gops_fact (fun w hM => row_form (hM.ok _ (List.mem_of_getElem? (i := 13) rfl))) ?_
                  rintro ⟨A88, c88, rfl, hc88, hm88, hn88⟩
                  refine gop (y_move (v := .tuple #[.slice A88 _ c88, .agg #[_, _]]) rfl) rfl rfl rfl ?_
                  refine gop (y_extract (v := .slice _ _ _) rfl rfl) rfl rfl rfl ?_
                  refine gop (y_extract (v := .agg #[_, _]) rfl rfl) rfl rfl rfl ?_
                  refine gop_alloc (cs := #[.int .i64 0, .int .i64 0]) Tryd.zeroValue25 rfl rfl (fun b13 hb13 => ?_)
                  refine gop (y_assign (v := .slice _ _ _) rfl) rfl rfl rfl ?_
                  refine gop_store 14 (v := .agg #[_, _]) (cs' := #[_, _]) rfl rfl Tryd.sizeOf25 rfl rfl rfl rfl (Nat.le_of_ble_eq_true rfl) rfl rfl ?_
                  refine gops_nil ?_
                  refine hN18 _ _ ?_
                  refine gT [box b19 _, rowl _ _ _ _ _ _, fr0, box b4 _, box b24 _, rowl _ _ _ _ _ _, box b6 _, box b43 _, rowl _ _ _ _ _ _, fr, box b8 _, rowl _ _ _ _ _ _, rowl _ _ _ _ _ _, rowl _ _ _ _ _ _, box b13 _] rfl ?_
                  refine gfrom [(7, .slice _ _ _), (9, .slice Dv _ dc), (10, .slice Wv _ wc), (12, .slice _ _ _), (13, .pointer _)] ⟨rfl, rfl, rfl, rfl, rfl, trivial⟩ fun σ => ?_
                  refine gseq fun N19 hN19 => ?_
                  refine greg ?_
                  refine gop (y_move (v := .slice Dv _ dc) rfl) rfl rfl rfl ?_
                  refine gop_got (fun v T' => ∃ lo u, v = .tuple #[u, fv ⟨0, 0⟩] ∧ w.heap.size ≤ lo ∧ T' = [rowl intCells lo 3 1 (u) (levTo (ll (depsTo ss ss.length)) (depsTo ss ss.length).length)]) (e_call (vs := [.slice Dv _ dc]) Tryd.func7 rfl (by kernel_rfl) rfl) (fun w hM => by have hd : DepsR w 0 Dv (depsTo ss ss.length) := ⟨(row_rdl (f := lcCells) (fun _ => rfl) (hM.ok _ (List.mem_of_getElem? (i := 11) rfl))).mono (Nat.zero_le _), fun a ha => by obtain ⟨s, hs, rfl⟩ := depsTo_mem ha; exact ⟨(hfr _ (hM.ok _ (List.mem_of_getElem? (i := 9) rfl)) s hs).rd.mono (Nat.zero_le _)⟩⟩; have hc := dgLevels_any w _ _ (depsTo ss ss.length) hd hcD hmD hdown; exact hc.mono fun _ _ ⟨v, T1, h1, h2, h3⟩ => ⟨_, T1, h1, ⟨_, v, rfl, hM.low.size, h2⟩, h3⟩) rfl rfl rfl ?_
                  rintro _ _ ⟨lo93, u93, rfl, hlo93, rfl⟩
                  refine gops_fact (fun w hM => row_form (hM.ok _ (List.mem_of_getElem? (i := 15) rfl))) ?_
                  rintro ⟨A93, c93, rfl, hc93, hm93, hn93⟩
                  refine gops_fact (Φ := 0 < (levTo (ll (depsTo ss ss.length)) (depsTo ss ss.length).length).length → ∃ g, A93 = some ⟨g, 0, none⟩) (fun w hM h9 => row_g (hM.ok _ (List.mem_of_getElem? (i := 15) rfl)) h9) ?_
                  intro hg93
                  refine gop (y_move (v := .tuple #[.slice A93 _ c93, .agg #[_, _]]) rfl) rfl rfl rfl ?_
                  refine gop (y_extract (v := .slice _ _ _) rfl rfl) rfl rfl rfl ?_
                  refine gop (y_extract (v := .agg #[_, _]) rfl rfl) rfl rfl rfl ?_
                  refine gop_alloc (cs := #[.int .i64 0, .int .i64 0]) Tryd.zeroValue25 rfl rfl (fun b15 hb15 => ?_)
                  refine gop (y_assign (v := .slice _ _ _) rfl) rfl rfl rfl ?_
                  refine gop_store 16 (v := .agg #[_, _]) (cs' := #[_, _]) rfl rfl Tryd.sizeOf25 rfl rfl rfl rfl (Nat.le_of_ble_eq_true rfl) rfl rfl ?_
                  refine gops_nil ?_
                  refine hN19 _ _ ?_
                  refine gT [box b19 _, rowl _ _ _ _ _ _, fr0, box b4 _, box b24 _, rowl _ _ _ _ _ _, box b6 _, box b43 _, rowl _ _ _ _ _ _, fr, box b8 _, rowl _ _ _ _ _ _, rowl _ _ _ _ _ _, rowl _ _ _ _ _ _, box b13 _, rowl _ _ _ _ _ _, box b15 _] rfl ?_
                  refine gfrom [(7, .slice _ _ _), (10, .slice Wv _ wc), (12, .slice _ _ _), (13, .pointer _), (14, .slice _ _ _), (15, .pointer _)] ⟨rfl, rfl, rfl, rfl, rfl, rfl, trivial⟩ fun σ => ?_
                  refine gseq fun N20 hN20 => ?_
                  refine gseq fun N21 hN21 => ?_
                  refine greg ?_
                  refine gop (y_fieldAddr_box fa25_0 rfl) rfl rfl rfl ?_
                  refine gop (y_load Tryd.isAgg3 rfl (cell_box 14 rfl rfl)) rfl rfl rfl ?_
                  refine gop (y_neq rfl rfl) rfl rfl rfl ?_
                  refine gop (y_move (v := .bool _) rfl) rfl rfl rfl ?_
                  refine gop_if (want := false) rfl rfl rfl rfl rfl rfl (fun hg99 => ?_) (fun hg99 => ?_)
                  · 
                    have hg99d := Decidable.not_not.1 (of_decide_eq_false hg99)
                    refine gop (y_bare (y_fieldAddr_box fa25_0 rfl)) rfl rfl rfl ?_
                    refine gop_on rfl rfl rfl rfl hg99 ?_
                    refine gop (y_bare (y_load Tryd.isAgg3 rfl (cell_box 16 rfl rfl))) rfl rfl rfl ?_
                    refine gop_on rfl rfl rfl rfl hg99 ?_
                    refine gop (y_bare (y_neq rfl rfl)) rfl rfl rfl ?_
                    refine gop (y_pick_f (v := .bool _) rfl hg99 rfl) rfl rfl rfl ?_
                    refine gop (y_move (v := .bool _) rfl) rfl rfl rfl ?_
                    refine gop_if (want := false) rfl rfl rfl rfl rfl rfl (fun hg104 => ?_) (fun hg104 => ?_)
                    · 
                      have hg104d := Decidable.not_not.1 (of_decide_eq_false hg104)
                      refine gop (y_bare (y_move (v := .slice _ _ _) rfl)) rfl rfl rfl ?_
                      refine gop_on rfl rfl rfl rfl hg104 ?_
                      refine gop (y_bare (y_move (v := .slice Wv _ wc) rfl)) rfl rfl rfl ?_
                      refine gop_on rfl rfl rfl rfl hg104 ?_
                      refine gop_pure (e_call (vs := [.slice _ _ _, .slice Wv _ wc]) Tryd.func6 rfl (by kernel_rfl) rfl) (fun w hM => by have hc := refInts_any w A88 Wv c88 wc (rangeI ss.length) (rangeI ss.length) ((row_rdl (f := intCells) (fun _ => rfl) (hM.ok _ (List.mem_of_getElem? (i := 13) rfl))).mono (Nat.zero_le _)) ((row_rdl (f := intCells) (fun _ => rfl) (hM.ok _ (List.mem_of_getElem? (i := 12) rfl))).mono (Nat.zero_le _)) (by rw [rangeI_len]; omega); rw [decide_eq_true rfl] at hc; exact hc) rfl rfl rfl ?_
                      refine gop_on rfl rfl rfl rfl hg104 ?_
                      refine gop (y_bare (y_not rfl)) rfl rfl rfl ?_
                      refine gop (y_pick_f (v := .bool _) rfl hg104 rfl) rfl rfl rfl ?_
                      refine gop (y_move (v := .bool _) rfl) rfl rfl rfl ?_
                      refine gop_if (want := false) rfl rfl rfl rfl rfl rfl (fun hg110 => ?_) (fun hg110 => ?_)
                      · 
                        have hg110d := not_f hg110
                        refine gop (y_bare (y_move (v := .slice _ _ _) rfl)) rfl rfl rfl ?_
                        refine gop_on rfl rfl rfl rfl hg110 ?_
                        refine gop (y_bare (y_len Tryd.underlying28 rfl)) rfl rfl rfl ?_
                        refine gop_on rfl rfl rfl rfl hg110 ?_
                        refine gop (y_bare (y_move (v := .slice _ _ _) rfl)) rfl rfl rfl ?_
                        refine gop_on rfl rfl rfl rfl hg110 ?_
                        refine gop (y_bare (y_len Tryd.underlying23 rfl)) rfl rfl rfl ?_
                        refine gop_on rfl rfl rfl rfl hg110 ?_
                        refine gop (y_bare (y_neq rfl rfl)) rfl rfl rfl ?_
                        refine gop (y_pick_f (v := .bool _) rfl hg110 rfl) rfl rfl rfl ?_
                        refine gops_nil ?_
                        refine hN21 _ _ ?_
                        refine gfrom [(7, .slice _ _ _), (14, .slice _ _ _), (116, .bool _)] ⟨rfl, rfl, rfl, trivial⟩ fun σ => ?_
                        refine gcond (b := _) rfl (fun hc116 => ?_) (fun hc116 => ?_)
                        · 
                           exfalso; have h9 := of_decide_eq_true hc116; omega
                        · 
                          replace hc116 := Decidable.not_not.1 (of_decide_eq_false hc116)
                          refine gskip ?_
                          refine hN20 _ _ ?_
                          refine gfrom [(7, .slice _ _ _), (14, .slice _ _ _)] ⟨rfl, rfl, trivial⟩ fun σ => ?_
                          refine gseq fun N22 hN22 => ?_
                          refine gseq fun N23 hN23 => ?_
                          refine greg ?_
                          refine gop (y_assign (v := .int _ _) rfl) rfl rfl rfl ?_
                          refine gops_nil ?_
                          refine hN23 _ _ ?_
                          refine gfrom [(7, .slice _ _ _), (14, .slice _ _ _), (16, .int _ _)] ⟨rfl, rfl, rfl, trivial⟩ fun σ => ?_
                          refine gblock ?_
                          refine gfrom2 [(16, .int _ _)] [(7, .slice _ _ _), (14, .slice _ _ _)] ⟨rfl, trivial⟩ ⟨rfl, rfl, trivial⟩ fun σ => ?_
                          refine gloop2 (G := Nat) (fun k => k ≤ ss.length) (fun k => ss.length - k) (fun k => [(16, .int .i64 (k : Int))]) (fun k => []) (0) ?h0 ⟨rfl, trivial⟩ ⟨rfl, rfl, trivial⟩ rfl ?round
                          case h0 => exact Nat.zero_le _
                          case round =>
                            intro k hφ σ
                            have hk : k ≤ ss.length := hφ
                            refine gseq fun N24 hN24 => ?_
                            refine gseq fun N25 hN25 => ?_
                            refine greg ?_
                            refine gop (y_move (v := .int _ _) rfl) rfl rfl rfl ?_
                            refine gop (y_move (v := .slice _ _ _) rfl) rfl rfl rfl ?_
                            refine gop (y_len Tryd.underlying23 rfl) rfl rfl rfl ?_
                            refine gop (y_lss rfl rfl) rfl rfl rfl ?_
                            refine gops_nil ?_
                            refine hN25 _ _ ?_
                            refine gfrom [(7, .slice _ _ _), (14, .slice _ _ _), (16, .int _ _), (120, .bool _)] ⟨rfl, rfl, rfl, rfl, trivial⟩ fun σ => ?_
                            refine gcond (b := _) rfl (fun hc120 => ?_) (fun hc120 => ?_)
                            · 
                              replace hc120 := of_decide_eq_true hc120
                              have hk1 : k < ss.length := by omega
                              obtain ⟨g49, rfl⟩ := hg49 (by omega)
                              obtain ⟨g93, rfl⟩ := hg93 (by omega)
                              have hlz := lev_steps hsok hk1
                              refine gskip ?_
                              refine hN24 _ _ ?_
                              refine gfrom [(7, .slice _ _ _), (14, .slice _ _ _), (16, .int _ _)] ⟨rfl, rfl, rfl, trivial⟩ fun σ => ?_
                              refine gseq fun N26 hN26 => ?_
                              refine gblock ?_
                              refine gseq fun N27 hN27 => ?_
                              refine greg ?_
                              refine gop (y_move (v := .slice _ _ _) rfl) rfl rfl rfl ?_
                              refine gop (y_move (v := .int _ _) rfl) rfl rfl rfl ?_
                              refine gop (y_indexAddr (m := k) Tryd.underlying23 Tryd.sizeOf36 rfl rfl (by omega) (by omega) (by omega)) rfl rfl rfl ?_
                              refine gop (y_fieldAddr_add fa36_1 rfl) rfl rfl rfl ?_
                              refine gop (y_load Tryd.isAgg3 rfl (cells_rowl 8 (f := stepCells) (l := ss) rfl rfl (fun _ => rfl) (List.getElem?_eq_getElem hk1) 1 _ rfl)) rfl rfl rfl ?_
                              refine gop (y_eql rfl rfl) rfl rfl rfl ?_
                              refine gop (y_move (v := .bool _) rfl) rfl rfl rfl ?_
                              refine gop_if (want := true) rfl rfl rfl rfl rfl rfl (fun hg129 => ?_) (fun hg129 => ?_)
                              · 
                                have hg129d := of_decide_eq_true hg129
                                refine gop (y_bare (y_move (v := .slice _ _ _) rfl)) rfl rfl rfl ?_
                                refine gop_on rfl rfl rfl rfl hg129 ?_
                                refine gop (y_bare (y_move (v := .int _ _) rfl)) rfl rfl rfl ?_
                                refine gop_on rfl rfl rfl rfl hg129 ?_
                                refine gop (y_bare (y_indexAddr (m := k) Tryd.underlying28 Tryd.sizeOf3 rfl rfl (by omega) (by omega) (by omega))) rfl rfl rfl ?_
                                refine gop_on rfl rfl rfl rfl hg129 ?_
                                refine gop (y_bare (y_load Tryd.isAgg3 rfl (cells_rowl 15 (f := intCells) (l := levTo (ll (depsTo ss ss.length)) (depsTo ss ss.length).length) rfl rfl (fun _ => rfl) (levTo_get _ _ _ (by omega)) 0 _ rfl))) rfl rfl rfl ?_
                                refine gop_on rfl rfl rfl rfl hg129 ?_
                                refine gop (y_bare (y_neq rfl rfl)) rfl rfl rfl ?_
                                refine gop (y_pick_t (v := .bool _) rfl hg129 rfl) rfl rfl rfl ?_
                                refine gop (y_move (v := .bool _) rfl) rfl rfl rfl ?_
                                refine gop_if (want := false) rfl rfl rfl rfl rfl rfl (fun hg136 => ?_) (fun hg136 => ?_)
                                · 
                                  have hg136d := Decidable.not_not.1 (of_decide_eq_false hg136)
                                  refine gop (y_bare (y_move (v := .slice _ _ _) rfl)) rfl rfl rfl ?_
                                  refine gop_on rfl rfl rfl rfl hg136 ?_
                                  refine gop (y_bare (y_move (v := .int _ _) rfl)) rfl rfl rfl ?_
                                  refine gop_on rfl rfl rfl rfl hg136 ?_
                                  refine gop (y_bare (y_indexAddr (m := k) Tryd.underlying23 Tryd.sizeOf36 rfl rfl (by omega) (by omega) (by omega))) rfl rfl rfl ?_
                                  refine gop_on rfl rfl rfl rfl hg136 ?_
                                  refine gop (y_bare (y_fieldAddr_add fa36_1 rfl)) rfl rfl rfl ?_
                                  refine gop_on rfl rfl rfl rfl hg136 ?_
                                  refine gop (y_bare (y_load Tryd.isAgg3 rfl (cells_rowl 8 (f := stepCells) (l := ss) rfl rfl (fun _ => rfl) (List.getElem?_eq_getElem hk1) 1 _ rfl))) rfl rfl rfl ?_
                                  refine gop_on rfl rfl rfl rfl hg136 ?_
                                  refine gop (y_bare (y_neq rfl rfl)) rfl rfl rfl ?_
                                  refine gop_on rfl rfl rfl rfl hg136 ?_
                                  refine gop (y_bare (y_move (v := .bool _) rfl)) rfl rfl rfl ?_
                                  refine gop_if (want := true) rfl rfl rfl rfl rfl rfl (fun hg143 => ?_) (fun hg143 => ?_)
                                  · 
                                    have hg143d := of_decide_eq_true hg143
                                    exfalso; omega
                                  · 
                                    have hg143d := Decidable.not_not.1 (of_decide_eq_false hg143)
                                    refine gop_off rfl rfl rfl rfl hg143 rfl rfl ?_
                                    refine gop_off rfl rfl rfl rfl hg143 rfl rfl ?_
                                    refine gop_off rfl rfl rfl rfl hg143 rfl rfl ?_
                                    refine gop_off rfl rfl rfl rfl hg143 rfl rfl ?_
                                    refine gop_on rfl rfl rfl rfl hg136 ?_
                                    refine gop (y_bare (y_pick_f (v := .bool _) rfl hg143 rfl)) rfl rfl rfl ?_
                                    refine gop (y_pick_f (v := .bool _) rfl hg136 rfl) rfl rfl rfl ?_
                                    refine gops_nil ?_
                                    refine hN27 _ _ ?_
                                    refine gfrom [(7, .slice _ _ _), (14, .slice _ _ _), (16, .int _ _), (150, .bool _)] ⟨rfl, rfl, rfl, rfl, trivial⟩ fun σ => ?_
                                    refine gcond (b := _) rfl (fun hc150 => ?_) (fun hc150 => ?_)
                                    · 
                                      cases hc150
                                    · 
                                      refine gskip ?_
                                      refine hN26 _ _ ?_
                                      refine gfrom [(7, .slice _ _ _), (14, .slice _ _ _), (16, .int _ _)] ⟨rfl, rfl, rfl, trivial⟩ fun σ => ?_
                                      refine greg ?_
                                      refine gop (y_move (v := .int _ _) rfl) rfl rfl rfl ?_
                                      refine gop (y_add rfl rfl ⟨by omega, by omega⟩) rfl rfl rfl ?_
                                      refine gop (y_assign (v := .int _ _) rfl) rfl rfl rfl ?_
                                      refine gops_nil ?_
                                      refine gnext2 (k + 1) (by omega) (show k + 1 ≤ _ by omega) ⟨rfl, trivial⟩ ⟨rfl, rfl, trivial⟩ ⟨_, rfl⟩
                                · 
                                   exfalso; first | (have h9 := of_decide_eq_true hg136; omega) | (simp at hg136; done) | (simp at hg136; omega)
                              · 
                                have hg129d := of_decide_eq_false hg129
                                refine gop_off rfl rfl rfl rfl hg129 rfl rfl ?_
                                refine gop_off rfl rfl rfl rfl hg129 rfl rfl ?_
                                refine gop_off rfl rfl rfl rfl hg129 rfl rfl ?_
                                refine gop_off rfl rfl rfl rfl hg129 rfl rfl ?_
                                refine gop (y_pick_f (v := .bool _) rfl hg129 rfl) rfl rfl rfl ?_
                                refine gop (y_move (v := .bool _) rfl) rfl rfl rfl ?_
                                refine gop_on rfl rfl rfl rfl rfl ?_
                                refine gop (y_bare (y_move (v := .slice _ _ _) rfl)) rfl rfl rfl ?_
                                refine gop_on rfl rfl rfl rfl rfl ?_
                                refine gop (y_bare (y_move (v := .int _ _) rfl)) rfl rfl rfl ?_
                                refine gop_on rfl rfl rfl rfl rfl ?_
                                refine gop (y_bare (y_indexAddr (m := k) Tryd.underlying23 Tryd.sizeOf36 rfl rfl (by omega) (by omega) (by omega))) rfl rfl rfl ?_
                                refine gop_on rfl rfl rfl rfl rfl ?_
                                refine gop (y_bare (y_fieldAddr_add fa36_1 rfl)) rfl rfl rfl ?_
                                refine gop_on rfl rfl rfl rfl rfl ?_
                                refine gop (y_bare (y_load Tryd.isAgg3 rfl (cells_rowl 8 (f := stepCells) (l := ss) rfl rfl (fun _ => rfl) (List.getElem?_eq_getElem hk1) 1 _ rfl))) rfl rfl rfl ?_
                                refine gop_on rfl rfl rfl rfl rfl ?_
                                refine gop (y_bare (y_neq rfl rfl)) rfl rfl rfl ?_
                                refine gop_on rfl rfl rfl rfl rfl ?_
                                refine gop (y_bare (y_move (v := .bool _) rfl)) rfl rfl rfl ?_
                                refine gop_if (want := true) rfl rfl rfl rfl rfl rfl (fun hg143 => ?_) (fun hg143 => ?_)
                                · 
                                  have hg143d := of_decide_eq_true hg143
                                  refine gop (y_bare (y_move (v := .slice _ _ _) rfl)) rfl rfl rfl ?_
                                  refine gop_on rfl rfl rfl rfl hg143 ?_
                                  refine gop (y_bare (y_move (v := .int _ _) rfl)) rfl rfl rfl ?_
                                  refine gop_on rfl rfl rfl rfl hg143 ?_
                                  refine gop (y_bare (y_indexAddr (m := k) Tryd.underlying28 Tryd.sizeOf3 rfl rfl (by omega) (by omega) (by omega))) rfl rfl rfl ?_
                                  refine gop_on rfl rfl rfl rfl hg143 ?_
                                  refine gop (y_bare (y_load Tryd.isAgg3 rfl (cells_rowl 15 (f := intCells) (l := levTo (ll (depsTo ss ss.length)) (depsTo ss ss.length).length) rfl rfl (fun _ => rfl) (levTo_get _ _ _ (by omega)) 0 _ rfl))) rfl rfl rfl ?_
                                  refine gop_on rfl rfl rfl rfl hg143 ?_
                                  refine gop (y_bare (y_lss rfl rfl)) rfl rfl rfl ?_
                                  refine gop_on rfl rfl rfl rfl rfl ?_
                                  refine gop (y_bare (y_pick_t (v := .bool _) rfl hg143 rfl)) rfl rfl rfl ?_
                                  refine gop (y_pick_f (v := .bool _) rfl rfl rfl) rfl rfl rfl ?_
                                  refine gops_nil ?_
                                  refine hN27 _ _ ?_
                                  refine gfrom [(7, .slice _ _ _), (14, .slice _ _ _), (16, .int _ _), (150, .bool _)] ⟨rfl, rfl, rfl, rfl, trivial⟩ fun σ => ?_
                                  refine gcond (b := _) rfl (fun hc150 => ?_) (fun hc150 => ?_)
                                  · 
                                     exfalso; first | (have h9 := of_decide_eq_true hc150; omega) | (simp at hc150; done) | (simp at hc150; omega)
                                  · 
                                    replace hc150 := of_decide_eq_false hc150
                                    refine gskip ?_
                                    refine hN26 _ _ ?_
                                    refine gfrom [(7, .slice _ _ _), (14, .slice _ _ _), (16, .int _ _)] ⟨rfl, rfl, rfl, trivial⟩ fun σ => ?_
                                    refine greg ?_
                                    refine gop (y_move (v := .int _ _) rfl) rfl rfl rfl ?_
                                    refine gop (y_add rfl rfl ⟨by omega, by omega⟩) rfl rfl rfl ?_
                                    refine gop (y_assign (v := .int _ _) rfl) rfl rfl rfl ?_
                                    refine gops_nil ?_
                                    refine gnext2 (k + 1) (by omega) (show k + 1 ≤ _ by omega) ⟨rfl, trivial⟩ ⟨rfl, rfl, trivial⟩ ⟨_, rfl⟩
                                · 
                                  have hg143d := Decidable.not_not.1 (of_decide_eq_false hg143)
                                  exfalso; omega
                            · 
                              replace hc120 := of_decide_eq_false hc120
                              refine gexit ?_
                              refine hN22 _ _ ?_
                              refine gfrom [] trivial fun σ => ?_
                              refine gseq fun N28 hN28 => ?_
                              refine greg ?_
                              refine gop (y_assign (v := .bool _) rfl) rfl rfl rfl ?_
                              refine gops_nil ?_
                              refine hN28 _ _ ?_
                              refine gfrom [(2, .bool _)] ⟨rfl, trivial⟩ fun σ => ?_
                              refine gret fun w1 hM => ?_
                              refine ⟨_, res1 rfl (rt (v := .bool _) rfl), ?_⟩
                              exact ⟨rfl, hM.low⟩
                      · 
                         exfalso; first | (have h9 := of_decide_eq_true hg110; omega) | (simp at hg110; done) | (simp at hg110; omega)
                    · 
                       exfalso; first | (have h9 := of_decide_eq_true hg104; omega) | (simp at hg104; done) | (simp at hg104; omega)
                  · 
                     exfalso; first | (have h9 := of_decide_eq_true hg99; omega) | (simp at hg99; done) | (simp at hg99; omega)
          · 
            have hg55d := of_decide_eq_true hg55
            refine gop_off rfl rfl rfl rfl hg55 rfl rfl ?_
            refine gop_off rfl rfl rfl rfl hg55 rfl rfl ?_
            refine gop (y_pick_t (v := .bool _) rfl hg55 rfl) rfl rfl rfl ?_
            refine gops_nil ?_
            refine hN8 _ _ ?_
            refine gfrom [(7, .slice _ _ _), (8, .pointer _), (59, .bool _)] ⟨rfl, rfl, rfl, trivial⟩ fun σ => ?_
            refine gcond (b := _) rfl (fun hc59 => ?_) (fun hc59 => ?_)
            · 
              refine gseq fun N29 hN29 => ?_
              refine greg ?_
              refine gop (y_fieldAddr_box fa25_0 rfl) rfl rfl rfl ?_
              refine gop (y_load Tryd.isAgg3 rfl (cell_box 10 rfl rfl)) rfl rfl rfl ?_
              refine gop (y_eql rfl rfl) rfl rfl rfl ?_
              refine gop (y_move (v := .bool _) rfl) rfl rfl rfl ?_
              refine gop_if (want := false) rfl rfl rfl rfl rfl rfl (fun hg63 => ?_) (fun hg63 => ?_)
              · 
                have hg63d := of_decide_eq_false hg63
                refine gop (y_bare (y_move (v := .slice _ _ _) rfl)) rfl rfl rfl ?_
                refine gop_on rfl rfl rfl rfl hg63 ?_
                refine gop (y_bare (y_len Tryd.underlying23 rfl)) rfl rfl rfl ?_
                refine gop_on rfl rfl rfl rfl hg63 ?_
                refine gop (y_bare (y_eql rfl rfl)) rfl rfl rfl ?_
                refine gop (y_pick_f (v := .bool _) rfl hg63 rfl) rfl rfl rfl ?_
                refine gop (y_assign (v := .bool _) rfl) rfl rfl rfl ?_
                refine gops_nil ?_
                refine hN29 _ _ ?_
                refine gfrom [(2, .bool _)] ⟨rfl, trivial⟩ fun σ => ?_
                refine gret fun w1 hM => ?_
                refine ⟨_, res1 rfl (rt (v := .bool _) rfl), ?_⟩
                first | exact ⟨rfl, hM.low⟩ | exact ⟨by rw [decide_eq_true (show (ss.length : Int) = 0 by rw [hnil (by omega)]; rfl)], hM.low⟩
              · 
                have hg63d := of_decide_eq_true hg63
                refine gop_off rfl rfl rfl rfl hg63 rfl rfl ?_
                refine gop_off rfl rfl rfl rfl hg63 rfl rfl ?_
                refine gop (y_pick_t (v := .bool _) rfl hg63 rfl) rfl rfl rfl ?_
                refine gop (y_assign (v := .bool _) rfl) rfl rfl rfl ?_
                refine gops_nil ?_
                refine hN29 _ _ ?_
                refine gfrom [(2, .bool _)] ⟨rfl, trivial⟩ fun σ => ?_
                refine gret fun w1 hM => ?_
                refine ⟨_, res1 rfl (rt (v := .bool _) rfl), ?_⟩
                first | exact ⟨rfl, hM.low⟩ | exact ⟨by rw [decide_eq_true (show (ss.length : Int) = 0 by rw [hnil (by omega)]; rfl)], hM.low⟩
            · 
              cases hc59
      · 
         exfalso; first | (have h9 := of_decide_eq_true hg41; omega) | (simp at hg41; done) | (simp at hg41; omega)
    · 
       exfalso; first | (have h9 := of_decide_eq_true hg36; omega) | (simp at hg36; done) | (simp at hg36; omega)
  · 
     exfalso; first | (have h9 := of_decide_eq_true hg31; omega) | (simp at hg31; done) | (simp at hg31; omega)
end Go.Proofs.YtlmhppnbcbadbaaDoor
namespace Go.Cf
open Go.ChangeShapes Go.WideShapes Go.ChangeAt Go.RowKit Go.Deep
theorem trodAll_below {H : Type} {enc : TypeId × Value → H} {P : Program} (hl : laidOutB P = true) {W W' : World} (hb : Below W.heap.size W W') :
    ∀ {ts : List TypeId} {vs : List Value} {ds : List (DataW H)} {ps : List MemPlace}, (∀ t ∈ ts, P.readableRec t = true ∧ t < P.types.size) → DataW.TrodAll enc P W 0 (fun _ => true) true ts vs ds ps →
      DataW.TrodAll enc P W' 0 (fun b => decide (b < W.heap.size)) true ts vs ds ps
  | [], _, _, _, _, h => by
    obtain ⟨rfl, rfl, rfl⟩ := trodAll_nil h
    exact trodAll_mk0
  | t :: ts, _, _, _, hr, h => by
    obtain ⟨v, vs', d, ds', p, q, rfl, rfl, rfl, h1, h2⟩ := trodAll_cons h
    have lt : ∀ x ∈ p, x.block < W.heap.size := by obtain ⟨m, hm⟩ := h1; exact DataW.trod_lt m _ _ _ hm
    exact trodAll_cons_mk (Below.trod hl (hr t (by simp)).1 (hr t (by simp)).2 h1 hb lt) (trodAll_below hl hb (fun t' ht' => hr t' (by simp [ht'])) h2)
section
variable {H : Type} {enc : TypeId × Value → H} {P : Program} {w : World} {t e : TypeId} {v : Value} {d : DataW H} {p : List MemPlace} {b0 : Nat}
theorem weights_each {ts : List TypeId} {ds : List (DataW H)} {t : TypeId} {d : DataW H} (h : (DataW.weightsEach P (t :: ts) (d :: ds)).all (· ≤ reachBytes) = true) :
    (d.weights P t).all (· ≤ reachBytes) = true ∧ (DataW.weightsEach P ts ds).all (· ≤ reachBytes) = true := by
  simpa [DataW.weightsEach, List.all_append] using h
theorem weights_all {ds : List (DataW H)} (h : (DataW.weightsAll P e ds).all (· ≤ reachBytes) = true) : ∀ d ∈ ds, (d.weights P e).all (· ≤ reachBytes) = true := by
  induction ds with
  | nil => intro d hd; cases hd
  | cons x r ih =>
    simp only [DataW.weightsAll, List.all_append, Bool.and_eq_true] at h
    intro d hd
    rcases List.mem_cons.1 hd with rfl | hd
    · exact h.1
    · exact ih h.2 d hd
theorem weights_get : ∀ {ts : List TypeId} {ds : List (DataW H)}, (DataW.weightsEach P ts ds).all (· ≤ reachBytes) = true → ∀ (i : Nat) (t : TypeId) (d : DataW H), ts[i]? = some t → ds[i]? = some d → (d.weights P t).all (· ≤ reachBytes) = true
  | [], _, _, i, t, d, h1, _ => by simp at h1
  | _ :: _, [], _, i, t, d, _, h2 => by simp at h2
  | t0 :: ts, d0 :: ds, h, 0, t, d, h1, h2 => by
    simp at h1 h2
    subst h1 h2
    exact (weights_each h).1
  | t0 :: ts, d0 :: ds, h, i + 1, t, d, h1, h2 => weights_get (weights_each h).2 i t d (by simpa using h1) (by simpa using h2)
theorem rd_struct {fs : Array Field} {n : Nat} {cs : List Value} {x : DataW H × List MemPlace} (ht : P.underlying t = some (.struct fs)) (h : DataW.trod enc P w 0 (fun _ => true) true n t cs = some x) (hw : (x.1.weights P t).all (· ≤ reachBytes) = true) :
    ∃ m, cs.length = P.cellsOf t ∧ ∀ (i : Nat) (f : Field), fs[i]? = some f → ∃ y, DataW.trod enc P w 0 (fun _ => true) true m f.type ((cs.drop f.offset).take (P.cellsOf f.type)) = some y ∧ (y.1.weights P f.type).all (· ≤ reachBytes) = true := by
  obtain ⟨ys, m, _, hx, hl, hn, hf⟩ := DataW.trod_struct ht h
  refine ⟨m, hl, fun i f hi => ?_⟩
  have hlt : i < fs.size := by
    rcases Nat.lt_or_ge i fs.size with h | h
    · exact h
    · rw [Array.getElem?_eq_none h] at hi; cases hi
  obtain ⟨y, hy⟩ : ∃ y, ys[i]? = some y := ⟨_, List.getElem?_eq_getElem (by omega)⟩
  refine ⟨y, (hf i f hi).trans hy, ?_⟩
  rw [hx] at hw
  simp only [DataW.weights, ht] at hw
  exact weights_get hw i f.type y.1 (by simp [hi]) (by simp [hy])
theorem choose_list {α : Type} (n : Nat) (Q : Nat → α → Prop) (h : ∀ i, i < n → ∃ a, Q i a) : ∃ l : List α, l.length = n ∧ ∀ i a, l[i]? = some a → Q i a := by
  induction n with
  | zero => exact ⟨[], rfl, fun i a h => by simp at h⟩
  | succ n ih =>
    obtain ⟨l, hl, hq⟩ := ih (fun i hi => h i (by omega))
    obtain ⟨a, ha⟩ := h n (by omega)
    refine ⟨l ++ [a], by simp [hl], fun i b hb => ?_⟩
    rcases Nat.lt_or_ge i n with hi | hi
    · rw [List.getElem?_append_left (by omega)] at hb; exact hq i b hb
    · rw [List.getElem?_append_right (by omega), hl] at hb
      have : i - n = 0 := by
        rcases Nat.eq_zero_or_pos (i - n) with h0 | h0
        · exact h0
        · rw [List.getElem?_eq_none (by simp; omega)] at hb; cases hb
      rw [this] at hb
      simp at hb
      have hi' : i = n := by omega
      rw [← hb, hi']; exact ha
theorem rd_cells {α : Type} {f : α → List Value} {size : Nat} {Q : α → Prop} {fuel : Nat} {cs : List Value} {x : DataW H × List MemPlace} (ht : P.underlying t = some (.slice e)) (hC : P.cellsOf e = size)
    (hel : ∀ (n : Nat) (cs : List Value) (x : DataW H × List MemPlace), DataW.trod enc P w 0 (fun _ => true) true n e cs = some x → (x.1.weights P e).all (· ≤ reachBytes) = true → ∃ a, cs = f a ∧ Q a)
    (h : DataW.trod enc P w 0 (fun _ => true) true fuel t cs = some x) (hw : (x.1.weights P t).all (· ≤ reachBytes) = true) :
    ∃ (A : Option Addr) (c : Nat) (l : List α), cs = [.slice A l.length c] ∧ Rdl w 0 size f A l ∧ l.length ≤ c ∧ c ≤ maxLen ∧ (A = none → c = 0) ∧ c * P.bytesOf e ≤ reachBytes ∧ ∀ a ∈ l, Q a := by
  rcases open_slice ht h with ⟨h0, h1⟩ | ⟨a, len, cap, m, n, D, Pl, hcs, hb, hlc, hm, hmm, hx, hi⟩
  · exact ⟨none, 0, [], by simpa using h0, Rdl.nil, Nat.le_refl _, by unfold maxLen; omega, fun _ => rfl, by simp, fun a ha => by cases ha⟩
  · simp only [if_true] at hmm
    obtain rfl : m = cap := hmm
    have hwx : ((DataW.slice ((List.range len).map D) ((List.range (m - len)).map fun j => D (len + j))).weights P t).all (· ≤ reachBytes) = true := by rw [hx] at hw; exact hw
    simp only [DataW.weights, ht, List.all_cons, List.all_append, Bool.and_eq_true, decide_eq_true_eq, List.length_map, List.length_range] at hwx
    obtain ⟨hw1, hw2, _⟩ := hwx
    have hw2' := weights_all hw2
    obtain ⟨l, hl, hq⟩ := choose_list len (fun i a' => Q a' ∧ ∀ j u, (f a')[j]? = some u → w.cell? (a.add (i * size + j)) = some u) (fun i hlt => by
      obtain ⟨cs', hc, ht'⟩ := hi i (by omega)
      obtain ⟨a', he, hqa⟩ := hel n cs' (D i, Pl i) ht' (hw2' (D i) (List.mem_map.2 ⟨i, by simpa using hlt, rfl⟩))
      refine ⟨a', hqa, fun j u hu => ?_⟩
      obtain ⟨_, hcl, hat⟩ := World.cells?_some hc
      rw [← he] at hu
      have hj : j < P.cellsOf e := by
        rcases Nat.lt_or_ge j (P.cellsOf e) with h | h
        · exact h
        · rw [List.getElem?_eq_none (by omega)] at hu; cases hu
      have := hat j hj
      rw [hu, hC, add_add] at this
      exact this)
    have hlm : len + (m - len) = m := by omega
    rw [hlm] at hw1
    refine ⟨some a, m, l, by rw [hcs, hl], fun _ => ⟨a, rfl, Nat.zero_le _, fun k x hk => (hq k x hk).2⟩, by omega, hm, (fun h => by cases h), hw1, fun b hb => ?_⟩
    obtain ⟨k, hk⟩ := List.mem_iff_getElem?.1 hb
    exact (hq k b hk).1
theorem rd_slice {α : Type} {f : α → List Value} {size : Nat} {Q : α → Prop} (ht : P.underlying t = some (.slice e)) (hC : P.cellsOf e = size)
    (hel : ∀ (n : Nat) (cs : List Value) (x : DataW H × List MemPlace), DataW.trod enc P w 0 (fun _ => true) true n e cs = some x → (x.1.weights P e).all (· ≤ reachBytes) = true → ∃ a, cs = f a ∧ Q a)
    (hok : Value.okWide P w .any b0 t v) (h : DataW.Trod enc P w 0 (fun _ => true) true t v d p) (hw : (d.weights P t).all (· ≤ reachBytes) = true) :
    ∃ (A : Option Addr) (c : Nat) (l : List α), v = .slice A l.length c ∧ Rdl w 0 size f A l ∧ l.length ≤ c ∧ c ≤ maxLen ∧ (A = none → c = 0) ∧ c * P.bytesOf e ≤ reachBytes ∧ ∀ a ∈ l, Q a := by
  obtain ⟨a0, len, cap, rfl⟩ := okWide_slice ht hok
  obtain ⟨fuel, hf⟩ := h
  obtain ⟨A, c, l, hcs, hr⟩ := rd_cells ht hC hel hf hw
  simp only [Value.cells, List.cons.injEq, and_true] at hcs
  exact ⟨A, c, l, hcs, hr⟩
theorem wf_in64 {n : Int} (h : (Lit.int .i64 n).wf = true) : In64 n := by
  unfold In64
  simpa [Lit.wf, IntKind.min, IntKind.max, IntKind.signed, IntKind.bits] using h
theorem el_int (ht : P.underlying e = some (.int .i64)) : ∀ (n : Nat) (cs : List Value) (x : DataW H × List MemPlace), DataW.trod enc P w 0 (fun _ => true) true n e cs = some x → (x.1.weights P e).all (· ≤ reachBytes) = true → ∃ a : Int, cs = [.int .i64 a] ∧ In64 a :=
  fun n cs x h _ => by
    obtain ⟨a, rfl, _, hwf⟩ := DataW.trod_int ht h
    exact ⟨a, rfl, wf_in64 hwf⟩
end
end Go.Cf
namespace Go.Cf
open Go.RowKit
theorem slInts {H : Type} {enc : TypeId × Value → H} {P : Program} {w : World} {base fuel : Nat} {sp : Nat → Bool} {held : Bool} {t e : TypeId} {cs : List Value} {x : DataW H} {q : List MemPlace} {l : List Int}
    (ht : P.underlying t = some (.slice e)) (he : P.underlying e = some (.int .i64)) (hC : P.cellsOf e = 1) (h : DataW.trod enc P w base sp held fuel t cs = some (x, q))
    (hx : x = .nil ∧ l = [] ∨ x = .slice (l.map fun z => .lit (.int .i64 z)) []) : ∃ A c, cs = [.slice A l.length c] ∧ Rdl w 0 1 intCells A l := by
  rcases DataW.trod_slice ht h with ⟨rfl, hx'⟩ | ⟨a, len, cap, elems, rest, n, _, rfl, hx', hb, hlc, hm, hel, hi, _, _⟩
  · have h1 : x = .nil := congrArg Prod.fst hx'
    rcases hx with ⟨_, rfl⟩ | hx
    · exact ⟨none, 0, rfl, Rdl.nil⟩
    · rw [h1] at hx; cases hx
  · have h1 : x = .slice (elems.map (·.1)) (rest.map (·.1)) := congrArg Prod.fst hx'
    rcases hx with ⟨hx, _⟩ | hx
    · rw [h1] at hx; cases hx
    · rw [h1] at hx
      injection hx with hx1 _
      have hl : elems.length = l.length := by have h9 := congrArg List.length hx1; simpa using h9
      refine ⟨some a, cap, by rw [← hel, hl], fun _ => ⟨a, rfl, Nat.zero_le _, fun k z hk j u hu => ?_⟩⟩
      have hkl := (List.getElem?_eq_some_iff.1 hk).1
      have h2 := hi k (by omega)
      have h3 : elems[k]? = some elems[k] := List.getElem?_eq_getElem (by omega)
      rw [h3, Option.bind_eq_some_iff] at h2
      obtain ⟨cs', hc, ht'⟩ := h2
      obtain ⟨m, hcm, hy, _⟩ := DataW.trod_int he ht'
      have h4 : (elems.map (·.1))[k]? = (l.map fun z => (DataW.lit (.int .i64 z) : DataW H))[k]? := by rw [hx1]
      rw [List.getElem?_map, List.getElem?_map, h3, hk, hy] at h4
      simp only [Option.map_some, Option.some.injEq, DataW.lit.injEq, Lit.int.injEq, true_and] at h4
      obtain ⟨_, hcl, hat⟩ := World.cells?_some hc
      have h5 := hat 0 (by omega)
      have hj : j = 0 := by have h9 := (List.getElem?_eq_some_iff.1 hu).1; simp at h9; omega
      subst hj
      rw [hcm, hC, add_add] at h5
      simp only [intCells, List.getElem?_cons_zero, Option.some.injEq] at hu
      rw [h5, ← hu, h4]; rfl
end Go.Cf
namespace Go.Proofs.YtlmhppnbcbadbaaDoor
open Go.RowKit Go.Cf
theorem permData (i : Nat) (hi : i < permL.length) : ∃ d, (match (Rows.laid_changeforge_rules_permitted (H := Unit)) with | .agg l => l[i]? | _ => none) = some d ∧ (d = .nil ∧ permL[i] = [] ∨ d = .slice ((permL[i]).map fun z => .lit (.int .i64 z)) []) := by
  have h : i < 7 := hi
  match i, h with
  | 0, _ => exact ⟨_, rfl, .inl ⟨rfl, rfl⟩⟩
  | 1, _ => exact ⟨_, rfl, .inl ⟨rfl, rfl⟩⟩
  | 2, _ => exact ⟨_, rfl, .inr rfl⟩
  | 3, _ => exact ⟨_, rfl, .inr rfl⟩
  | 4, _ => exact ⟨_, rfl, .inr rfl⟩
  | 5, _ => exact ⟨_, rfl, .inr rfl⟩
  | 6, _ => exact ⟨_, rfl, .inr rfl⟩
theorem laidK_of {W : World} (h : laidMetH Tryd.prog [("changeforge/rules.permitted", Rows.laid_changeforge_rules_permitted), ("changeforge/rules.required", Rows.laid_changeforge_rules_required)] W) : LaidK W := by
  rw [MakeChecks.laidMetH_plain _ _ _ (by kernel_rfl)] at h
  have gP : Tryd.prog.globalNamed "changeforge/rules.permitted" = some 0 := by kernel_rfl
  have gR : Tryd.prog.globalNamed "changeforge/rules.required" = some 1 := by kernel_rfl
  have hR : Lib.TabIs Tryd.prog W "changeforge/rules.required" .i64 reqL := Lib.tabIs_of_head gR (t := 53) (by kernel_rfl) Tryd.underlying53 Tryd.underlying3 (by kernel_rfl) (by kernel_rfl) h.tail
  obtain ⟨ps, ⟨g', t', cs, fuel, p, q, hg', ht', hvar, hd, _, _⟩, _⟩ := h
  have hty : (Tryd.prog.globals[(0 : Nat)]?).map (·.type) = some 52 := by kernel_rfl
  obtain rfl := Option.some.inj (gP.symm.trans hg')
  obtain rfl := Option.some.inj (hty.symm.trans ht')
  have cS : Tryd.prog.cellsOf 28 = 1 := by kernel_rfl
  have cI : Tryd.prog.cellsOf 3 = 1 := by kernel_rfl
  obtain ⟨xs, m, _, hx, hcl, hxl, hxi⟩ := DataW.trod_array Tryd.underlying52 hd
  have hx1 : Rows.laid_changeforge_rules_permitted = DataW.agg (xs.map (·.1)) := congrArg Prod.fst hx
  have key : ∀ i, i < 7 → ∃ a : LC, W.cell? ⟨0, i, none⟩ = some (.slice a.A a.l.length a.c) ∧ Rdl W 0 1 intCells a.A a.l ∧ permL[i]? = some a.l := by
    intro i hi
    have hil : i < permL.length := hi
    obtain ⟨d, hdi, hdd⟩ := permData i hil
    rw [hx1] at hdi
    replace hdi : (xs.map (·.1))[i]? = some d := hdi
    have h2 := hxi i hi
    obtain ⟨y, hy⟩ : ∃ y, xs[i]? = some y := ⟨_, List.getElem?_eq_getElem (by omega)⟩
    rw [hy] at h2
    rw [List.getElem?_map, hy] at hdi
    obtain rfl : y.1 = d := Option.some.inj hdi
    obtain ⟨A, c, hcs, hrd⟩ := slInts Tryd.underlying28 Tryd.underlying3 cI h2 hdd
    refine ⟨⟨permL[i], A, c⟩, ?_, hrd, List.getElem?_eq_getElem hil⟩
    have h3 := World.var?_cell gP hvar i
    have h4 := congrArg (·[0]?) hcs
    simp only [cS, Nat.mul_one, List.getElem?_take, List.getElem?_drop, List.getElem?_cons_zero, Nat.lt_one_iff, if_true, Nat.add_zero] at h4
    rw [h3]
    simpa using h4
  obtain ⟨PL, hl, hq⟩ := choose_list 7 (fun i (a : LC) => W.cell? ⟨0, i, none⟩ = some (.slice a.A a.l.length a.c) ∧ Rdl W 0 1 intCells a.A a.l ∧ permL[i]? = some a.l) key
  refine ⟨PL, ⟨fun _ => ⟨_, rfl, Nat.zero_le _, fun k a hk j u hu => ?_⟩, fun a ha => ?_⟩, ?_, fun _ => ⟨_, rfl, Nat.zero_le _, fun k z hk j u hu => ?_⟩⟩
  · have hj : j = 0 := by have h9 := (List.getElem?_eq_some_iff.1 hu).1; simp at h9; omega
    subst hj
    simp only [lcCells, List.getElem?_cons_zero, Option.some.injEq] at hu
    rw [Addr.add_lit, ← hu]
    have h9 := (hq k a hk).1
    simpa using h9
  · obtain ⟨k, hk⟩ := List.mem_iff_getElem?.1 ha
    exact ⟨(hq k a hk).2.1⟩
  · apply List.ext_getElem?
    intro i
    rw [List.getElem?_map]
    rcases Nat.lt_or_ge i 7 with h9 | h9
    · have h8 : PL[i]? = some PL[i] := List.getElem?_eq_getElem (by omega)
      rw [h8, (hq i _ h8).2.2]; rfl
    · rw [List.getElem?_eq_none (by omega), List.getElem?_eq_none (show permL.length ≤ i from h9)]; rfl
  · have hj : j = 0 := by have h9 := (List.getElem?_eq_some_iff.1 hu).1; simp at h9; omega
    subst hj
    obtain ⟨hk1, hk2⟩ := List.getElem?_eq_some_iff.1 hk
    simp only [intCells, List.getElem?_cons_zero, Option.some.injEq] at hu
    rw [Addr.add_lit, ← hu]
    have h9 := hR.cell gR k hk1
    rw [List.getD_eq_getElem?_getD, hk] at h9
    simpa using h9
open Go.ChangeShapes Go.WideShapes Go.ChangeAt
theorem ck_int : Tryd.prog.cellsOf 3 = 1 := by kernel_rfl
theorem ck_ints : Tryd.prog.cellsOf 28 = 1 := by kernel_rfl
theorem el_brule {H : Type} {enc : TypeId × Value → H} {w : World} : ∀ (n : Nat) (cs : List Value) (x : DataW H × List MemPlace), DataW.trod enc Tryd.prog w 0 (fun _ => true) true n 30 cs = some x →
    (x.1.weights Tryd.prog 30).all (· ≤ reachBytes) = true → ∃ a : RuleC, cs = ruleCells a ∧ RuR w 0 a := by
  intro n cs x h hw
  obtain ⟨m, hlen, hf⟩ := rd_struct Tryd.underlying30 h hw
  have hl : cs.length = 2 := hlen.trans (by kernel_rfl)
  match cs, hl with
  | [c0, c1], _ =>
    obtain ⟨y0, f0, w0⟩ := hf 0 _ rfl
    obtain ⟨y1, f1, w1⟩ := hf 1 _ rfl
    simp [ck_int, ck_ints] at f0 f1
    obtain ⟨a0, e0, _⟩ := el_int Tryd.underlying3 m _ _ f0 w0
    obtain ⟨A1, c1', l1, e1, r1, s1, m1, n1, t1, _⟩ := rd_cells Tryd.underlying28 (by kernel_rfl) (el_int Tryd.underlying3) f1 w1
    simp at e0 e1
    subst e0 e1
    exact ⟨⟨⟨a0, l1⟩, A1, c1'⟩, rfl, ⟨r1, Nat.le_trans s1 m1⟩⟩
end Go.Proofs.YtlmhppnbcbadbaaDoor
namespace Go.Cf
open Go.ChangeShapes Go.WideShapes Go.ChangeAt Go.RowKit Go.Deep
theorem law_lift_row {H : Type} {enc : TypeId × Value → H} {C : Checked} {os : Os} {f : FuncId} {fn : Func} {s : OpenSpec} {F : Stop.Interp} {conds : List PathCond} {tb : TypeId} {laid : List (String × DataW Unit)}
    (own : ownKnob C.prog.godebug = none) (started : os.Started) (noInit : C.prog.inits.idxOf? f = none) (hfn : C.prog.funcs[f]? = some fn)
    (witness : ∃ (w : World) (tape : Tape) (i : Input), w.os = os ∧ (w.forCall tape i).Shaped C.prog ∧ i.vars = [] ∧ Input.okWide C.prog (w.forCall tape i) .any w.heap.size f i ∧
      s.preRow enc C.prog fn conds false laid (w.forCall tape i).memory i.args ∧ Assume.holds {} C.prog (lone (Frame.enter C.prog f i.args .normal) [] (w.forCall tape i)))
    (hl : laidOutB C.prog = true) (hread : (fn.params.toList.all fun t => C.prog.readableRec t && decide (t < C.prog.types.size)) = true) (hres : fn.resultTypes = #[tb]) (htb : C.prog.underlying tb = some .bool) (hvars : s.vars = []) (hvars0 : (s.at F).vars = []) (hvt : s.bare.plain.varTypes C.prog = [])
    (hspec : ∀ ds : List (DataW H), ds.length = fn.params.size → ((s.at F).fn H (ds ++ [])).results = [.lit (.bool true)] ∧ ((s.at F).fn H (ds ++ [])).args = ds ∧ ((s.at F).fn H (ds ++ [])).vars = [])
    (contract : ∀ (W : World) (base : Nat) (args : Array Value) (ds : List (DataW H)) (p : List MemPlace),
      (∀ (j : Nat) t v, fn.params[j]? = some t → args[j]? = some v → Value.okWide C.prog W .any base t v) → DataW.TrodAll enc C.prog W 0 (fun _ => true) true fn.params.toList args.toList ds p →
      (DataW.weightsEach C.prog fn.params.toList ds).all (· ≤ reachBytes) = true → (∀ k, s.cond = some k → k H ds = true) → laidMetH C.prog laid W →
      Calls C.prog f args W fun e W' => e = .returned (.bool true) ∧ Below W.heap.size W W') :
    ReturnsInHanded {} C os f .any (s.preRow enc C.prog fn conds false laid) ((s.at F).post enc C.prog fn false true false false) := by
  refine returnsInHanded_of_row own started noInit hfn witness ?_
  intro W base args ds gs before hval hW _ hkk hsz hL _ _
  have hW' := hW
  obtain ⟨p, q, hA, hV, rfl, _, _⟩ := hW
  rw [hvars] at hV
  obtain ⟨rfl, rfl⟩ := trodVars_none hV
  have hlen : ds.length = fn.params.size := by
    have key : ∀ (ts : List TypeId) (vs : List Value) (ds : List (DataW H)) (p : List MemPlace), DataW.TrodAll enc C.prog W 0 (fun _ => true) true ts vs ds p → ds.length = ts.length := by
      intro ts
      induction ts with
      | nil => intro vs ds p h; obtain ⟨_, rfl, _⟩ := trodAll_nil h; rfl
      | cons t ts ih => intro vs ds p h; obtain ⟨v, vs', d, ds', p, q, rfl, rfl, rfl, _, h2⟩ := trodAll_cons h; simp [ih _ _ _ h2]
    rw [key _ _ _ _ hA]; simp
  have hw : (DataW.weightsEach C.prog fn.params.toList ds).all (· ≤ reachBytes) = true := by
    simpa [hvt] using hsz
  refine (contract W base args ds p hval hA hw (fun k hk => by simpa using hkk k hk) hL).mono fun e W' ⟨he, bel⟩ => ?_
  subst he
  obtain ⟨h1, h2, h3⟩ := hspec ds hlen
  have hr : ∀ t ∈ fn.params.toList, C.prog.readableRec t = true ∧ t < C.prog.types.size := by
    intro t ht
    have := List.all_eq_true.1 hread t ht
    simpa using this
  refine ⟨_, rfl, ds, [], p ++ [], [], p, [], hW', ?_, ?_, ?_, World.keptBut_mono (fun x hx => ⟨hx, ?_⟩) (bel.frame (· ∈ p ++ [])), fun h => by cases h⟩
  · rw [h1, hres]; exact trodAll_mk1 (shut_bool htb _)
  · rw [h2]; exact trodAll_below hl bel hr hA
  · rw [h3, hvars0]; rfl
  · right; left; simpa using hx
end Go.Cf
namespace Go.Proofs.YtlmhppnbcbadbaaDoor
open Go.ChangeShapes Go.WideShapes Go.ChangeAt Go.RowKit Go.Cf
set_option maxRecDepth 100000 in
theorem topBuildStepsAreOrdered_lifted (os : Os) (started : os.Started) (H : Type) (enc : TypeId × Value → H) (F : Stop.Interp) :
    ReturnsInHanded {} Tryd.checked os 3 .any ((OpenSpec.ofChange Rows.topBuildStepsAreOrderedSpec).preRow enc Tryd.prog Tryd.f3 Rows.topBuildStepsAreOrderedRow.domain false Rows.topBuildStepsAreOrderedRow.laid) (((OpenSpec.ofChange Rows.topBuildStepsAreOrderedSpec).at F).post enc Tryd.prog Tryd.f3 false true false false) := by
  refine law_lift_row (C := Tryd.checked) (s := OpenSpec.ofChange Rows.topBuildStepsAreOrderedSpec) (tb := 4) (by kernel_rfl) started (by kernel_rfl) Tryd.func3
    (witness_row_atRef (enc := enc) (C := Tryd.checked) false ({ (World.holding Tryd.prog os ⟨#[.cells #[.int .i64 1, .int .i64 3] 3, .cells #[.int .i64 2] 3, .cells #[.int .i64 2, .int .i64 3] 3, .cells #[.int .i64 4] 3, .cells #[.int .i64 1, .int .i64 2, .int .i64 3, .int .i64 4, .int .i64 5] 3], #[], []⟩) with heap := (((World.holding Tryd.prog os ⟨#[.cells #[.int .i64 1, .int .i64 3] 3, .cells #[.int .i64 2] 3, .cells #[.int .i64 2, .int .i64 3] 3, .cells #[.int .i64 4] 3, .cells #[.int .i64 1, .int .i64 2, .int .i64 3, .int .i64 4, .int .i64 5] 3], #[], []⟩).heap).modify 0 (fun | .cells _ t fz => .cells #[.slice none 0 0, .slice none 0 0, .slice (some ⟨7, 0, none⟩) 2 2, .slice (some ⟨8, 0, none⟩) 1 1, .slice (some ⟨9, 0, none⟩) 2 2, .slice (some ⟨10, 0, none⟩) 1 1, .slice (some ⟨11, 0, none⟩) 5 5] t fz | o => o)).modify 1 (fun | .cells _ t fz => .cells #[.int .i64 0, .int .i64 0, .int .i64 1, .int .i64 2, .int .i64 2, .int .i64 4, .int .i64 0] t fz | o => o) } : World) #[.slice none 0 0] rfl (by kernel_rfl) (by kernel_rfl) (by kernel_rfl)
      (OpenSpec.preRow_of_cond 8 (show DataW.whole enc Tryd.prog _ Tryd.f3.params.toList _ false _ 8 = some ([.nil], [], []) by kernel_rfl) (by kernel_rfl) (fun k hk => by cases hk) (by kernel_rfl) (laidMet_of_run' 8 (by kernel_rfl) (by kernel_rfl))))
    (by kernel_rfl) (by kernel_rfl) (by kernel_rfl) Tryd.underlying4 rfl rfl rfl ?_ ?_
  · intro ds hds
    rw [show Tryd.f3.params.size = 1 from by rw [Tryd.params3]; rfl] at hds
    match ds, hds with
    | [d0], _ => exact ⟨rfl, rfl, rfl⟩
  · intro W base args ds p hval hA hw hk hL
    rw [show Tryd.f3.params.toList = [22] from by rw [Tryd.params3]] at hA hw
    rw [Tryd.params3] at hval
    obtain ⟨v0, vs0, d0, ds0, p0, q0, hargs, rfl, rfl, h0, r0⟩ := trodAll_cons hA
    obtain ⟨rfl, rfl, rfl⟩ := trodAll_nil r0
    obtain rfl : args = #[v0] := by cases args; simp_all
    obtain ⟨w0, hw⟩ := weights_each hw
    obtain ⟨A0, c0, l0, rfl, hv0, hlc0, hcm0, hA0, hcb0, hQ0⟩ := rd_slice Tryd.underlying22 (by kernel_rfl) el_brule (hval 0 22 v0 rfl rfl) h0 w0
    exact law11_any W A0 c0 l0 ⟨hv0, hQ0⟩ (Nat.le_trans hlc0 hcm0) (laidK_of hL)
theorem topBuildStepsAreOrdered_said : Rows.TopBuildStepsAreOrderedSaid :=
  OpenClaim.holds_of_cond 3 Tryd.f3 rfl rfl rfl rfl rfl rfl rfl ⟨rfl, rfl, rfl, rfl, rfl⟩ rfl rfl rfl rfl rfl (by kernel_rfl) Tryd.func3 (by kernel_rfl)
    (of_decide_eq_true (by kernel_rfl)) (by unfold Func.isWrapper; first | (rw [if_pos (by decide +kernel)]; kernel_rfl) | (rw [if_neg (by decide +kernel)]; exact ⟨rfl, rfl⟩))
    (fun os started H enc _ F => by rw [OpenClaim.pre_eq_preRow]; exact topBuildStepsAreOrdered_lifted os started H enc F)
theorem topBuildStepsAreOrdered_plain (f : FuncId) (fn : Func) (hf : Tryd.pinned.checked.prog.funcNamed "changeforge/changeforgetop.TopBuildStepsAreOrdered" = some f) (hfn : Tryd.pinned.checked.prog.funcs[f]? = some fn) :
    false = Tryd.pinned.checked.prog.looks [] ∧ ∀ (j : Nat) t, fn.params[j]? = some t → Tryd.pinned.checked.prog.wantsStandIn t = false := by
  obtain rfl : f = 3 := Option.some.inj ((show Tryd.prog.funcNamed "changeforge/changeforgetop.TopBuildStepsAreOrdered" = some 3 by kernel_rfl).symm.trans hf) |>.symm
  obtain rfl : fn = Tryd.f3 := (Option.some.inj (Tryd.func3.symm.trans hfn)).symm
  refine ⟨by kernel_rfl, fun j t ht => ?_⟩
  rw [Tryd.params3] at ht
  have hm : t ∈ [22] := by simpa using Array.mem_of_getElem? ht
  have hall : ([22].all fun u => !Tryd.prog.wantsStandIn u) = true := by kernel_rfl
  exact (show Tryd.prog.wantsStandIn t = false by simpa using List.all_eq_true.1 hall t hm)
theorem topBuildStepsAreOrdered_holds : Rows.TopBuildStepsAreOrderedCardSaid :=
  Claim7.holds_tied_plain_at .later [] _ _ _ _ topBuildStepsAreOrdered_said (fun _ h => by cases h) (by kernel_rfl) (fun _ h => by cases h) topBuildStepsAreOrdered_row_tie rfl ⟨rfl, rfl⟩ (by kernel_rfl) rfl topBuildStepsAreOrdered_plain (by kernel_rfl)
end Go.Proofs.YtlmhppnbcbadbaaDoor
