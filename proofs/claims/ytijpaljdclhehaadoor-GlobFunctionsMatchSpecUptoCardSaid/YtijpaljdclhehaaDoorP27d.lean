/- Own frame, plain models and walks, part 4 (texts of this claim put together). -/
import Derived.Test.YtijpaljdclhehaaDoorP27c
import Derived.Ground.Names2Prog
import Derived.Shelf.LaysM
import Derived.Shelf.Slices.Clone
import Derived.Shelf.Slices.Equal
import Derived.Shelf.Slices.Turned
import Derived.Shelf.Small.Strs
import Derived.Shelf.Small.Utf8
import Derived.Shelf.Strings.AsciiSet
import Derived.Shelf.Strings.Builder1
import Derived.Shelf.Strings.Builder2
import Derived.Shelf.Strings.Count
import Derived.Shelf.Strings.IndexAny
import Derived.Shelf.Strings.IndexAnyAll
import Derived.Shelf.Strings.OnBuilder
import Derived.Shelf.Strings.Runes
import Derived.Shelf.Strings.Search1
import Derived.Shelf.Strings.Search2
import Derived.Shelf.Strings.Search3
import Derived.Shelf.Strings.Shaped
import Derived.Shelf.Unicode.DecodeSlow
import Derived.Test.YtijpaljdclhehaaDoorProg
namespace Go.Proofs.YtijpaljdclhehaaDoor
open Go.RowKit Go.Cf
set_option maxRecDepth 10000
theorem fa23_0 (a : Addr) (w : World) : (Instr.fieldAt 23 (.pointer (some a)) 0).run Tryd.prog w = .ok (.pointer (some (a.add 0))) w := by kernel_rfl
set_option maxHeartbeats 4000000 in
theorem over1_any (P N : List ByteArray) (A1 A2 : Option Addr) (c1 c2 mb b5 b2 b3 b6 : Nat) (hPs : ∀ x ∈ P, x.size ≤ 60) (hNs : ∀ x ∈ N, x.size ≤ 60) (hPl : P.length ≤ 4000001) (hNl : N.length ≤ 4000001) (w0 : World) (m : Nat) : ∀ (i j : Nat) (w : World) (l : List ((Nat × Nat) × Bool)) (fr : Reg),
    (∀ w1, fr.ok w1 → w1.cell? ⟨b5, 0, none⟩ = some (.map (some mb)) ∧ w1.cell? ⟨b2, 0, none⟩ = some (.slice A1 P.length c1) ∧ w1.cell? ⟨b3, 0, none⟩ = some (.slice A2 N.length c2) ∧ w1.cell? ⟨b6, 0, none⟩ = some (.func (.func 45) #[] #[.pointer (some ⟨b5, 0, none⟩), .pointer (some ⟨b2, 0, none⟩), .pointer (some ⟨b3, 0, none⟩), .pointer (some ⟨b6, 0, none⟩)]) ∧ Rdl w1 0 1 strCells A1 P ∧ Rdl w1 0 1 strCells A2 N) → P.length - i + (N.length - j) = m → i ≤ P.length → j ≤ N.length → MemoOk (ovAt P N) l → Mem w0 [mapr ek2 Value.bool mb l, fr] w →
    Calls Tryd.prog 45 #[.int .i64 (i : Int), .int .i64 (j : Int), .pointer (some ⟨b5, 0, none⟩), .pointer (some ⟨b2, 0, none⟩), .pointer (some ⟨b3, 0, none⟩), .pointer (some ⟨b6, 0, none⟩)] w fun e w' => e = .returned (.bool (ovAt P N i j)) ∧ ∃ l', MemoOk (ovAt P N) l' ∧ Mem w0 [mapr ek2 Value.bool mb l', fr] w' := by
  refine Nat.strongRecOn m ?_
  intro m ih i j w l fr hF hm hi hj hl hM0
  refine gcallsT Tryd.func45 rfl Tryd.ntmps45 (Nat.le_of_ble_eq_true rfl) hM0 ?_
  refine gfrom [(0, .int _ _), (1, .int _ _), (2, .pointer (some _)), (3, .pointer (some _)), (4, .pointer (some _)), (5, .pointer (some _))] ⟨rfl, rfl, rfl, rfl, rfl, rfl, trivial⟩ fun σ => ?_
  refine gseq fun N1 hN1 => ?_
  refine greg ?_
  refine gop (y_assign (v := .bool _) rfl) rfl rfl rfl ?_
  refine gops_nil ?_
  refine hN1 _ _ ?_
  refine gfrom [(0, .int _ _), (1, .int _ _), (2, .pointer (some _)), (3, .pointer (some _)), (4, .pointer (some _)), (5, .pointer (some _))] ⟨rfl, rfl, rfl, rfl, rfl, rfl, trivial⟩ fun σ => ?_
  refine gseq fun N2 hN2 => ?_
  refine gseq fun N3 hN3 => ?_
  refine greg ?_
  refine gop (y_load Tryd.isAgg66 rfl (fun w hM => (hF w (hM.ok _ (List.mem_of_getElem? (i := 1) rfl))).1)) rfl rfl rfl ?_
  refine gop (y_move (v := .int _ _) rfl) rfl rfl rfl ?_
  refine gop (y_move (v := .int _ _) rfl) rfl rfl rfl ?_
  refine gop (y_build (vs := [(0, .int _ _), (1, .int _ _)]) (cells := #[_, _]) rfl (bd69_0_1 _ _)) rfl rfl rfl ?_
  refine gop (y_lookup 0 (c := true) (v0 := .bool false) (u := .tuple #[.bool ((Go.Cf.look l (i, j)).getD false), .bool (Go.Cf.look l (i, j)).isSome]) key2 Tryd.underlying66 Tryd.zeroValue4 rfl (i, j) rfl rfl (by cases Go.Cf.look l (i, j) <;> rfl)) rfl rfl rfl ?_
  refine gop (y_move (v := .tuple #[.bool _, .bool _]) rfl) rfl rfl rfl ?_
  refine gop (y_extract (v := .bool _) rfl rfl) rfl rfl rfl ?_
  refine gop (y_extract (v := .bool _) rfl rfl) rfl rfl rfl ?_
  refine gop (y_assign (v := .bool _) rfl) rfl rfl rfl ?_
  refine gop (y_assign (v := .bool _) rfl) rfl rfl rfl ?_
  refine gops_nil ?_
  refine hN3 _ _ ?_
  refine gfrom [(0, .int _ _), (1, .int _ _), (2, .pointer (some _)), (3, .pointer (some _)), (4, .pointer (some _)), (5, .pointer (some _)), (9, .bool _), (10, .bool _)] ⟨rfl, rfl, rfl, rfl, rfl, rfl, rfl, rfl, trivial⟩ fun σ => ?_
  refine gseq fun N4 hN4 => ?_
  refine greg ?_
  refine gop (y_move (v := .bool _) rfl) rfl rfl rfl ?_
  refine gops_nil ?_
  refine hN4 _ _ ?_
  refine gfrom [(0, .int _ _), (1, .int _ _), (2, .pointer (some _)), (3, .pointer (some _)), (4, .pointer (some _)), (5, .pointer (some _)), (9, .bool _), (22, .bool _)] ⟨rfl, rfl, rfl, rfl, rfl, rfl, rfl, rfl, trivial⟩ fun σ => ?_
  refine gcond (b := _) rfl (fun hc22 => ?_) (fun hc22 => ?_)
  · 
    refine gseq fun N5 hN5 => ?_
    refine greg ?_
    refine gop (y_move (v := .bool _) rfl) rfl rfl rfl ?_
    refine gop (y_assign (v := .bool _) rfl) rfl rfl rfl ?_
    refine gops_nil ?_
    refine hN5 _ _ ?_
    refine gfrom [(8, .bool _)] ⟨rfl, trivial⟩ fun σ => ?_
    refine gret fun w1 hM => ?_
    refine ⟨_, res1 rfl (rt (v := .bool _) rfl), ?_⟩
    exact ⟨by rw [memo_hit hl hc22], l, hl, hM⟩
  · 
    refine gskip ?_
    refine hN2 _ _ ?_
    refine gfrom [(0, .int _ _), (1, .int _ _), (2, .pointer (some _)), (3, .pointer (some _)), (4, .pointer (some _)), (5, .pointer (some _))] ⟨rfl, rfl, rfl, rfl, rfl, rfl, trivial⟩ fun σ => ?_
    refine gseq fun N6 hN6 => ?_
    refine greg_q (by kernel_rfl) (by kernel_rfl) ?_
    refine gq (y_move (v := .int _ _) rfl) rfl rfl rfl ?_
    refine gq (y_load Tryd.isAgg37 rfl (fun w hM => (hF w (hM.ok _ (List.mem_of_getElem? (i := 1) rfl))).2.1)) rfl rfl rfl ?_
    refine gq (y_len Tryd.underlying37 rfl) rfl rfl rfl ?_
    refine gq (y_lss rfl rfl) rfl rfl rfl ?_
    refine gq (y_move (v := .int _ _) rfl) rfl rfl rfl ?_
    refine gq (y_load Tryd.isAgg37 rfl (fun w hM => (hF w (hM.ok _ (List.mem_of_getElem? (i := 1) rfl))).2.2.1)) rfl rfl rfl ?_
    refine gq (y_len Tryd.underlying37 rfl) rfl rfl rfl ?_
    refine gq (y_lss rfl rfl) rfl rfl rfl ?_
    refine gq (y_assign (v := .bool _) rfl) rfl rfl rfl ?_
    refine gq (y_assign (v := .bool _) rfl) rfl rfl rfl ?_
    refine gqs_nil ?_
    refine hN6 _ _ ?_
    refine gfrom [(0, .int _ _), (1, .int _ _), (2, .pointer (some _)), (3, .pointer (some _)), (4, .pointer (some _)), (5, .pointer (some _)), (11, .bool _), (12, .bool _)] ⟨rfl, rfl, rfl, rfl, rfl, rfl, rfl, rfl, trivial⟩ fun σ => ?_
    refine gseq fun N7 hN7 => ?_
    refine gfrom [(0, .int _ _), (1, .int _ _), (2, .pointer (some _)), (3, .pointer (some _)), (4, .pointer (some _)), (5, .pointer (some _)), (11, .bool _), (12, .bool _)] ⟨rfl, rfl, rfl, rfl, rfl, rfl, rfl, rfl, trivial⟩ fun σ => ?_
    refine gcut3 (Lf := [(0, .int _ _), (1, .int _ _), (2, .pointer (some _)), (3, .pointer (some _)), (4, .pointer (some _)), (5, .pointer (some _)), (11, .bool _), (12, .bool _)]) (G := Unit) (fun g => True) (fun g => [(13, .bool (decide (¬ i < P.length) && decide (¬ j < N.length)))]) (fun g => []) ⟨rfl, rfl, rfl, rfl, rfl, rfl, rfl, rfl, trivial⟩ ?_ ?_
    ·
      refine greg ?_
      refine gop (y_move (v := .bool _) rfl) rfl rfl rfl ?_
      refine gop (y_not rfl) rfl rfl rfl ?_
      refine gop (y_move (v := .bool _) rfl) rfl rfl rfl ?_
      refine gop_if (want := true) rfl rfl rfl rfl rfl rfl (fun hg34 => ?_) (fun hg34 => ?_)
      · 
        have hg34d := not_t hg34
        refine gop (y_bare (y_move (v := .bool _) rfl)) rfl rfl rfl ?_
        refine gop_on rfl rfl rfl rfl hg34 ?_
        refine gop (y_bare (y_not rfl)) rfl rfl rfl ?_
        refine gop (y_pick_t (v := .bool _) rfl hg34 rfl) rfl rfl rfl ?_
        refine gop (y_assign (v := .bool _) rfl) rfl rfl rfl ?_
        refine gops_nil ?_
        refine gcut3_end (()) (trivial) ⟨congrArg Value.bool (by rw [decide_eq_true (show ¬ i < P.length by have := of_decide_eq_false hg34d; omega), Bool.true_and, decide_not, Bool.not_inj_iff]; exact decide_eq_decide.2 (by omega)), trivial⟩ ⟨rfl, rfl, rfl, rfl, rfl, rfl, rfl, rfl, trivial⟩ ⟨_, rfl⟩
      · 
        have hg34d := not_f hg34
        refine gop_off rfl rfl rfl rfl hg34 rfl rfl ?_
        refine gop (y_pick_f (v := .bool _) rfl hg34 rfl) rfl rfl rfl ?_
        refine gop (y_assign (v := .bool _) rfl) rfl rfl rfl ?_
        refine gops_nil ?_
        refine gcut3_end (()) (trivial) ⟨congrArg Value.bool (by rw [decide_eq_false (show ¬ ¬ i < P.length by have := of_decide_eq_true hg34d; omega), Bool.false_and]), trivial⟩ ⟨rfl, rfl, rfl, rfl, rfl, rfl, rfl, rfl, trivial⟩ ⟨_, rfl⟩
    ·
      intro g hcut σ
      refine hN7 _ _ ?_
      refine gseq fun N8 hN8 => ?_
      refine gT [mapr _ _ _ _, fr] rfl ?_
      refine gfrom [(0, .int _ _), (1, .int _ _), (2, .pointer (some _)), (3, .pointer (some _)), (4, .pointer (some _)), (5, .pointer (some _)), (11, .bool _), (12, .bool _), (13, .bool _)] ⟨rfl, rfl, rfl, rfl, rfl, rfl, rfl, rfl, rfl, trivial⟩ fun σ => ?_
      refine gcut3 (Lf := [(0, .int _ _), (1, .int _ _), (2, .pointer (some _))]) (G := List ((Nat × Nat) × Bool)) (fun l1 => MemoOk (ovAt P N) l1) (fun l1 => [(13, .bool (ovAt P N i j))]) (fun l1 => [(0, mapr ek2 Value.bool mb l1)]) ⟨rfl, rfl, rfl, trivial⟩ ?_ ?_
      ·
        refine gblock ?_
        refine gseq fun N9 hN9 => ?_
        refine greg ?_
        refine gop (y_move (v := .bool _) rfl) rfl rfl rfl ?_
        refine gop (y_move (v := .bool _) rfl) rfl rfl rfl ?_
        refine gop_if (want := true) rfl rfl rfl rfl rfl rfl (fun hg40 => ?_) (fun hg40 => ?_)
        · 
          have hg40d := of_decide_eq_true hg40
          have hi1 : i < P.length := by omega
          obtain ⟨ad1, rfl, -, -⟩ := (hF w (hM0.ok _ (List.mem_of_getElem? (i := 1) rfl))).2.2.2.2.1.at_ hi1
          refine gop (y_bare (y_load Tryd.isAgg37 rfl (fun w hM => (hF w (hM.ok _ (List.mem_of_getElem? (i := 1) rfl))).2.1))) rfl rfl rfl ?_
          refine gop_on rfl rfl rfl rfl hg40 ?_
          refine gop (y_bare (y_move (v := .int _ _) rfl)) rfl rfl rfl ?_
          refine gop_on rfl rfl rfl rfl hg40 ?_
          refine gop (y_bare (y_indexAddr (m := i) Tryd.underlying37 Tryd.sizeOf9 rfl rfl (by omega) (by omega) (by omega))) rfl rfl rfl ?_
          refine gop_on rfl rfl rfl rfl hg40 ?_
          refine gop (y_bare (y_load Tryd.isAgg9 rfl (rdl_cell 1 rfl (fun w1 ho => (hF w1 ho).2.2.2.2.1) hi1))) rfl rfl rfl ?_
          refine gop_on rfl rfl rfl rfl hg40 ?_
          refine gop (y_bare (y_eqls rfl rfl)) rfl rfl rfl ?_
          refine gop (y_pick_t (v := .bool _) rfl hg40 rfl) rfl rfl rfl ?_
          refine gop (y_assign (v := .bool _) rfl) rfl rfl rfl ?_
          refine gops_nil ?_
          refine hN9 _ _ ?_
          refine gfrom [(0, .int _ _), (1, .int _ _), (2, .pointer (some _)), (3, .pointer (some _)), (4, .pointer (some _)), (5, .pointer (some _)), (11, .bool _), (12, .bool _), (13, .bool _), (38, .bool _)] ⟨rfl, rfl, rfl, rfl, rfl, rfl, rfl, rfl, rfl, rfl, trivial⟩ fun σ => ?_
          refine gcond (b := _) rfl (fun hc38 => ?_) (fun hc38 => ?_)
          · 
            refine greg ?_
            refine gop (y_load Tryd.isAgg67 rfl (fun w hM => (hF w (hM.ok _ (List.mem_of_getElem? (i := 1) rfl))).2.2.2.1)) rfl rfl rfl ?_
            refine gop (y_move (v := .int _ _) rfl) rfl rfl rfl ?_
            refine gop (y_add rfl rfl ⟨by omega, by omega⟩) rfl rfl rfl ?_
            refine gop (y_move (v := .int _ _) rfl) rfl rfl rfl ?_
            refine gop_does1 0 (fun v r G => ∃ l1, v = .bool (ovAt P N (i + 1) (j)) ∧ r = mapr ek2 Value.bool mb l1 ∧ MemoOk (ovAt P N) l1 ∧ G = []) (e_callv (vs := [.int _ _, .int _ _]) (cs := [.pointer (some ⟨b5, 0, none⟩), .pointer (some ⟨b2, 0, none⟩), .pointer (some ⟨b3, 0, none⟩), .pointer (some ⟨b6, 0, none⟩)]) rfl Tryd.func45 rfl (by kernel_rfl) rfl) rfl (fun w fr1 hfr hM => (ih (P.length - (i + 1) + (N.length - (j))) (by omega) (i + 1) (j) w _ fr1 (fun w1 ho => hF w1 (hfr 1 _ rfl (by decide) w1 ho)) rfl (by omega) (by omega) hl hM).mono fun _ _ ⟨he, l1, h1, h2⟩ => ⟨_, _, [], he, ⟨l1, rfl, rfl, h1, rfl⟩, h2⟩) rfl rfl rfl ?_
            rintro _ _ _ ⟨l1, rfl, rfl, hl1, rfl⟩
            refine gop (y_move (v := .bool _) rfl) rfl rfl rfl ?_
            refine gop_if (want := false) rfl rfl rfl rfl rfl rfl (fun hg52 => ?_) (fun hg52 => ?_)
            · 
              have hg52d := hg52
              refine gop (y_bare (y_move (v := .bool _) rfl)) rfl rfl rfl ?_
              refine gop_on rfl rfl rfl rfl hg52 ?_
              refine gop (y_bare (y_move (v := .bool _) rfl)) rfl rfl rfl ?_
              refine gop_if (want := true) rfl rfl rfl rfl rfl rfl (fun hg54 => ?_) (fun hg54 => ?_)
              · 
                have hg54d := of_decide_eq_true hg54
                refine gop (y_bare (y_load Tryd.isAgg67 rfl (fun w hM => (hF w (hM.ok _ (List.mem_of_getElem? (i := 1) rfl))).2.2.2.1))) rfl rfl rfl ?_
                refine gop_on rfl rfl rfl rfl hg54 ?_
                refine gop (y_bare (y_move (v := .int _ _) rfl)) rfl rfl rfl ?_
                refine gop_on rfl rfl rfl rfl hg54 ?_
                refine gop (y_bare (y_move (v := .int _ _) rfl)) rfl rfl rfl ?_
                refine gop_on rfl rfl rfl rfl hg54 ?_
                refine gop (y_bare (y_add rfl rfl ⟨by omega, by omega⟩)) rfl rfl rfl ?_
                refine gop_on rfl rfl rfl rfl hg54 ?_
                refine gop_does1 0 (fun v r G => ∃ l1, v = .bool (ovAt P N (i) (j + 1)) ∧ r = mapr ek2 Value.bool mb l1 ∧ MemoOk (ovAt P N) l1 ∧ G = []) (e_callv (vs := [.int _ _, .int _ _]) (cs := [.pointer (some ⟨b5, 0, none⟩), .pointer (some ⟨b2, 0, none⟩), .pointer (some ⟨b3, 0, none⟩), .pointer (some ⟨b6, 0, none⟩)]) rfl Tryd.func45 rfl (by kernel_rfl) rfl) rfl (fun w fr1 hfr hM => (ih (P.length - (i) + (N.length - (j + 1))) (by omega) (i) (j + 1) w _ fr1 (fun w1 ho => hF w1 (hfr 1 _ rfl (by decide) w1 ho)) rfl (by omega) (by omega) hl1 hM).mono fun _ _ ⟨he, l1, h1, h2⟩ => ⟨_, _, [], he, ⟨l1, rfl, rfl, h1, rfl⟩, h2⟩) rfl rfl rfl ?_
                rintro _ _ _ ⟨l2, rfl, rfl, hl2, rfl⟩
                refine gop_on rfl rfl rfl rfl hg52 ?_
                refine gop (y_bare (y_pick_t (v := .bool _) rfl hg54 rfl)) rfl rfl rfl ?_
                refine gop (y_pick_f (v := .bool _) rfl hg52 rfl) rfl rfl rfl ?_
                refine gop (y_assign (v := .bool _) rfl) rfl rfl rfl ?_
                refine gops_nil ?_
                refine gcut3_end (l2) (hl2) ⟨congrArg Value.bool ((ov_star2 hi1 hc38 hg52d (by omega)).symm), trivial⟩ ⟨rfl, rfl, rfl, trivial⟩ ⟨_, rfl⟩
              · 
                have hg54d := of_decide_eq_false hg54
                refine gop_off rfl rfl rfl rfl hg54 rfl rfl ?_
                refine gop_off rfl rfl rfl rfl hg54 rfl rfl ?_
                refine gop_off rfl rfl rfl rfl hg54 rfl rfl ?_
                refine gop_off rfl rfl rfl rfl hg54 rfl rfl ?_
                refine gop_on rfl rfl rfl rfl hg52 ?_
                refine gop (y_bare (y_pick_f (v := .bool _) rfl hg54 rfl)) rfl rfl rfl ?_
                refine gop (y_pick_f (v := .bool _) rfl hg52 rfl) rfl rfl rfl ?_
                refine gop (y_assign (v := .bool _) rfl) rfl rfl rfl ?_
                refine gops_nil ?_
                refine gcut3_end (l1) (hl1) ⟨congrArg Value.bool ((ov_star3 hi1 hc38 hg52d (by omega)).symm), trivial⟩ ⟨rfl, rfl, rfl, trivial⟩ ⟨_, rfl⟩
            · 
              have hg52d := hg52
              refine gop_off rfl rfl rfl rfl hg52 rfl rfl ?_
              refine gop_offu rfl rfl rfl rfl rfl rfl ?_
              refine gop_offu rfl rfl rfl rfl rfl rfl ?_
              refine gop_offu rfl rfl rfl rfl rfl rfl ?_
              refine gop_offu rfl rfl rfl rfl rfl rfl ?_
              refine gop_offu rfl rfl rfl rfl rfl rfl ?_
              refine gop_off rfl rfl rfl rfl hg52 rfl rfl ?_
              refine gop (y_pick_t (v := .bool _) rfl hg52 rfl) rfl rfl rfl ?_
              refine gop (y_assign (v := .bool _) rfl) rfl rfl rfl ?_
              refine gops_nil ?_
              refine gcut3_end (l1) (hl1) ⟨congrArg Value.bool ((ov_star1 hi1 hc38 (by simpa using hg52d)).symm), trivial⟩ ⟨rfl, rfl, rfl, trivial⟩ ⟨_, rfl⟩
          · 
            have hno : i < P.length → strEq (P[i]?.getD ⟨#[]⟩) sStars = false := by
              intro hi2
              rw [List.getElem?_eq_getElem hi2]
              first | exact hc38 | (exfalso; omega)
            refine gseq fun N10 hN10 => ?_
            refine greg ?_
            refine gop (y_move (v := .bool _) rfl) rfl rfl rfl ?_
            refine gop (y_move (v := .bool _) rfl) rfl rfl rfl ?_
            refine gop_if (want := true) rfl rfl rfl rfl rfl rfl (fun hg64 => ?_) (fun hg64 => ?_)
            · 
              have hg64d := of_decide_eq_true hg64
              have hj1 : j < N.length := by omega
              obtain ⟨ad2, rfl, -, -⟩ := (hF w (hM0.ok _ (List.mem_of_getElem? (i := 1) rfl))).2.2.2.2.2.at_ hj1
              refine gop (y_bare (y_load Tryd.isAgg37 rfl (fun w hM => (hF w (hM.ok _ (List.mem_of_getElem? (i := 1) rfl))).2.2.1))) rfl rfl rfl ?_
              refine gop_on rfl rfl rfl rfl hg64 ?_
              refine gop (y_bare (y_move (v := .int _ _) rfl)) rfl rfl rfl ?_
              refine gop_on rfl rfl rfl rfl hg64 ?_
              refine gop (y_bare (y_indexAddr (m := j) Tryd.underlying37 Tryd.sizeOf9 rfl rfl (by omega) (by omega) (by omega))) rfl rfl rfl ?_
              refine gop_on rfl rfl rfl rfl hg64 ?_
              refine gop (y_bare (y_load Tryd.isAgg9 rfl (rdl_cell 1 rfl (fun w1 ho => (hF w1 ho).2.2.2.2.2) hj1))) rfl rfl rfl ?_
              refine gop_on rfl rfl rfl rfl hg64 ?_
              refine gop (y_bare (y_eqls rfl rfl)) rfl rfl rfl ?_
              refine gop (y_pick_t (v := .bool _) rfl hg64 rfl) rfl rfl rfl ?_
              refine gop (y_assign (v := .bool _) rfl) rfl rfl rfl ?_
              refine gops_nil ?_
              refine hN10 _ _ ?_
              refine gfrom [(0, .int _ _), (1, .int _ _), (2, .pointer (some _)), (3, .pointer (some _)), (4, .pointer (some _)), (5, .pointer (some _)), (11, .bool _), (12, .bool _), (13, .bool _), (62, .bool _)] ⟨rfl, rfl, rfl, rfl, rfl, rfl, rfl, rfl, rfl, rfl, trivial⟩ fun σ => ?_
              refine gcond (b := _) rfl (fun hc62 => ?_) (fun hc62 => ?_)
              · 
                refine greg ?_
                refine gop (y_load Tryd.isAgg67 rfl (fun w hM => (hF w (hM.ok _ (List.mem_of_getElem? (i := 1) rfl))).2.2.2.1)) rfl rfl rfl ?_
                refine gop (y_move (v := .int _ _) rfl) rfl rfl rfl ?_
                refine gop (y_move (v := .int _ _) rfl) rfl rfl rfl ?_
                refine gop (y_add rfl rfl ⟨by omega, by omega⟩) rfl rfl rfl ?_
                refine gop_does1 0 (fun v r G => ∃ l1, v = .bool (ovAt P N (i) (j + 1)) ∧ r = mapr ek2 Value.bool mb l1 ∧ MemoOk (ovAt P N) l1 ∧ G = []) (e_callv (vs := [.int _ _, .int _ _]) (cs := [.pointer (some ⟨b5, 0, none⟩), .pointer (some ⟨b2, 0, none⟩), .pointer (some ⟨b3, 0, none⟩), .pointer (some ⟨b6, 0, none⟩)]) rfl Tryd.func45 rfl (by kernel_rfl) rfl) rfl (fun w fr1 hfr hM => (ih (P.length - (i) + (N.length - (j + 1))) (by omega) (i) (j + 1) w _ fr1 (fun w1 ho => hF w1 (hfr 1 _ rfl (by decide) w1 ho)) rfl (by omega) (by omega) hl hM).mono fun _ _ ⟨he, l1, h1, h2⟩ => ⟨_, _, [], he, ⟨l1, rfl, rfl, h1, rfl⟩, h2⟩) rfl rfl rfl ?_
                rintro _ _ _ ⟨l1, rfl, rfl, hl1, rfl⟩
                refine gop (y_move (v := .bool _) rfl) rfl rfl rfl ?_
                refine gop_if (want := false) rfl rfl rfl rfl rfl rfl (fun hg76 => ?_) (fun hg76 => ?_)
                · 
                  have hg76d := hg76
                  refine gop (y_bare (y_move (v := .bool _) rfl)) rfl rfl rfl ?_
                  refine gop_on rfl rfl rfl rfl hg76 ?_
                  refine gop (y_bare (y_move (v := .bool _) rfl)) rfl rfl rfl ?_
                  refine gop_if (want := true) rfl rfl rfl rfl rfl rfl (fun hg78 => ?_) (fun hg78 => ?_)
                  · 
                    have hg78d := of_decide_eq_true hg78
                    refine gop (y_bare (y_load Tryd.isAgg67 rfl (fun w hM => (hF w (hM.ok _ (List.mem_of_getElem? (i := 1) rfl))).2.2.2.1))) rfl rfl rfl ?_
                    refine gop_on rfl rfl rfl rfl hg78 ?_
                    refine gop (y_bare (y_move (v := .int _ _) rfl)) rfl rfl rfl ?_
                    refine gop_on rfl rfl rfl rfl hg78 ?_
                    refine gop (y_bare (y_add rfl rfl ⟨by omega, by omega⟩)) rfl rfl rfl ?_
                    refine gop_on rfl rfl rfl rfl hg78 ?_
                    refine gop (y_bare (y_move (v := .int _ _) rfl)) rfl rfl rfl ?_
                    refine gop_on rfl rfl rfl rfl hg78 ?_
                    refine gop_does1 0 (fun v r G => ∃ l1, v = .bool (ovAt P N (i + 1) (j)) ∧ r = mapr ek2 Value.bool mb l1 ∧ MemoOk (ovAt P N) l1 ∧ G = []) (e_callv (vs := [.int _ _, .int _ _]) (cs := [.pointer (some ⟨b5, 0, none⟩), .pointer (some ⟨b2, 0, none⟩), .pointer (some ⟨b3, 0, none⟩), .pointer (some ⟨b6, 0, none⟩)]) rfl Tryd.func45 rfl (by kernel_rfl) rfl) rfl (fun w fr1 hfr hM => (ih (P.length - (i + 1) + (N.length - (j))) (by omega) (i + 1) (j) w _ fr1 (fun w1 ho => hF w1 (hfr 1 _ rfl (by decide) w1 ho)) rfl (by omega) (by omega) hl1 hM).mono fun _ _ ⟨he, l1, h1, h2⟩ => ⟨_, _, [], he, ⟨l1, rfl, rfl, h1, rfl⟩, h2⟩) rfl rfl rfl ?_
                    rintro _ _ _ ⟨l2, rfl, rfl, hl2, rfl⟩
                    refine gop_on rfl rfl rfl rfl hg76 ?_
                    refine gop (y_bare (y_pick_t (v := .bool _) rfl hg78 rfl)) rfl rfl rfl ?_
                    refine gop (y_pick_f (v := .bool _) rfl hg76 rfl) rfl rfl rfl ?_
                    refine gop (y_assign (v := .bool _) rfl) rfl rfl rfl ?_
                    refine gops_nil ?_
                    refine gcut3_end (l2) (hl2) ⟨congrArg Value.bool ((ov_oth2 hno hj1 hc62 hg76d hi1).symm), trivial⟩ ⟨rfl, rfl, rfl, trivial⟩ ⟨_, rfl⟩
                  · 
                    have hg78d := of_decide_eq_false hg78
                    exfalso; omega
                · 
                  have hg76d := hg76
                  refine gop_off rfl rfl rfl rfl hg76 rfl rfl ?_
                  refine gop_offu rfl rfl rfl rfl rfl rfl ?_
                  refine gop_offu rfl rfl rfl rfl rfl rfl ?_
                  refine gop_offu rfl rfl rfl rfl rfl rfl ?_
                  refine gop_offu rfl rfl rfl rfl rfl rfl ?_
                  refine gop_offu rfl rfl rfl rfl rfl rfl ?_
                  refine gop_off rfl rfl rfl rfl hg76 rfl rfl ?_
                  refine gop (y_pick_t (v := .bool _) rfl hg76 rfl) rfl rfl rfl ?_
                  refine gop (y_assign (v := .bool _) rfl) rfl rfl rfl ?_
                  refine gops_nil ?_
                  refine gcut3_end (l1) (hl1) ⟨congrArg Value.bool ((ov_oth1 hno hj1 hc62 (by simpa using hg76d)).symm), trivial⟩ ⟨rfl, rfl, rfl, trivial⟩ ⟨_, rfl⟩
              · 
                refine gseq fun N11 hN11 => ?_
                refine greg ?_
                refine gop (y_move (v := .bool _) rfl) rfl rfl rfl ?_
                refine gop (y_move (v := .bool _) rfl) rfl rfl rfl ?_
                refine gop_if (want := true) rfl rfl rfl rfl rfl rfl (fun hg88 => ?_) (fun hg88 => ?_)
                · 
                  have hg88d := of_decide_eq_true hg88
                  refine gop (y_bare (y_move (v := .bool _) rfl)) rfl rfl rfl ?_
                  refine gop (y_pick_t (v := .bool _) rfl hg88 rfl) rfl rfl rfl ?_
                  refine gop (y_assign (v := .bool _) rfl) rfl rfl rfl ?_
                  refine gops_nil ?_
                  refine hN11 _ _ ?_
                  refine gfrom [(0, .int _ _), (1, .int _ _), (2, .pointer (some _)), (3, .pointer (some _)), (4, .pointer (some _)), (5, .pointer (some _)), (13, .bool _), (86, .bool _)] ⟨rfl, rfl, rfl, rfl, rfl, rfl, rfl, rfl, trivial⟩ fun σ => ?_
                  refine gcond (b := _) rfl (fun hc86 => ?_) (fun hc86 => ?_)
                  · 
                    replace hc86 := of_decide_eq_true hc86
                    refine greg_e0 [15] (by kernel_rfl) ?_
                    refine ge_take 0 (TK := [mapr _ _ _ _, fr]) rfl (by kernel_rfl) (by kernel_rfl) (by kernel_rfl) #[false, true, false, false, true, true, true, true, false, false, false, false, false, false, false, false, false, false] (by kernel_rfl) rfl (y_load Tryd.isAgg37 rfl (fun w hM => (hF w (hM.ok _ (List.mem_of_getElem? (i := 1) rfl))).2.1)) rfl rfl rfl (weak_refl) (listed' := #[true, false, false, false, false, false, false, false, false, false, false, false, false, false, false, false, false, false]) rfl ?_
                    refine ge_take 1 (TK := [mapr _ _ _ _, fr]) rfl (by kernel_rfl) (by kernel_rfl) (by kernel_rfl) #[true, false, false, false, true, true, true, true, false, false, false, false, false, false, false, false, false, false] (by kernel_rfl) rfl (y_move (v := .int _ _) rfl) rfl rfl rfl (weak_refl) (listed' := #[true, true, false, false, false, false, false, false, false, false, false, false, false, false, false, false, false, false]) rfl ?_
                    refine ge_take 2 (TK := [mapr _ _ _ _, fr]) rfl (by kernel_rfl) (by kernel_rfl) (by kernel_rfl) #[true, true, false, false, true, true, true, true, false, false, false, false, false, false, false, false, false, false] (by kernel_rfl) rfl (y_indexAddr (m := i) Tryd.underlying37 Tryd.sizeOf9 rfl rfl (by omega) (by omega) (by omega)) rfl rfl rfl (weak_refl) (listed' := #[true, true, true, false, false, false, false, false, false, false, false, false, false, false, false, false, false, false]) rfl ?_
                    refine ge_take 3 (TK := [mapr _ _ _ _, fr]) rfl (by kernel_rfl) (by kernel_rfl) (by kernel_rfl) #[true, true, true, false, true, true, true, true, false, false, false, false, false, false, false, false, false, false] (by kernel_rfl) rfl (y_load Tryd.isAgg9 rfl (rdl_cell 1 rfl (fun w1 ho => (hF w1 ho).2.2.2.2.1) hi1)) rfl rfl rfl (weak_refl) (listed' := #[true, true, true, true, false, false, false, false, false, false, false, false, false, false, false, false, false, false]) rfl ?_
                    refine ge_take 4 (TK := [mapr _ _ _ _, fr]) rfl (by kernel_rfl) (by kernel_rfl) (by kernel_rfl) #[true, true, true, true, false, true, false, false, false, false, false, false, false, false, false, false, false, false] (by kernel_rfl) rfl (y_load Tryd.isAgg37 rfl (fun w hM => (hF w (hM.ok _ (List.mem_of_getElem? (i := 1) rfl))).2.2.1)) rfl rfl rfl (weak_refl) (listed' := #[true, true, true, true, true, false, false, false, false, false, false, false, false, false, false, false, false, false]) rfl ?_
                    refine ge_take 5 (TK := [mapr _ _ _ _, fr]) rfl (by kernel_rfl) (by kernel_rfl) (by kernel_rfl) #[true, true, true, true, true, false, false, false, false, false, false, false, false, false, false, false, false, false] (by kernel_rfl) rfl (y_move (v := .int _ _) rfl) rfl rfl rfl (weak_refl) (listed' := #[true, true, true, true, true, true, false, false, false, false, false, false, false, false, false, false, false, false]) rfl ?_
                    refine ge_take 6 (TK := [mapr _ _ _ _, fr]) rfl (by kernel_rfl) (by kernel_rfl) (by kernel_rfl) #[true, true, true, true, true, true, false, false, false, false, false, false, false, false, false, false, false, false] (by kernel_rfl) rfl (y_indexAddr (m := j) Tryd.underlying37 Tryd.sizeOf9 rfl rfl (by omega) (by omega) (by omega)) rfl rfl rfl (weak_refl) (listed' := #[true, true, true, true, true, true, true, false, false, false, false, false, false, false, false, false, false, false]) rfl ?_
                    refine ge_take 7 (TK := [mapr _ _ _ _, fr]) rfl (by kernel_rfl) (by kernel_rfl) (by kernel_rfl) #[true, true, true, true, true, true, true, false, false, false, false, false, false, false, false, false, false, false] (by kernel_rfl) rfl (y_load Tryd.isAgg9 rfl (rdl_cell 1 rfl (fun w1 ho => (hF w1 ho).2.2.2.2.2) hj1)) rfl rfl rfl (weak_refl) (listed' := #[true, true, true, true, true, true, true, true, false, false, false, false, false, false, false, false, false, false]) rfl ?_
                    refine ge_one 8 (k' := 0) (listed' := #[true, true, true, true, true, true, true, true, true, false, false, false, false, false, false, false, false, false]) (by kernel_rfl) rfl rfl rfl ?_
                    refine gop_pure (e_call (vs := [.string _, .string _]) Tryd.func46 rfl (by kernel_rfl) rfl) (fun w hM => common_any w _ _ (hPs _ (List.getElem_mem hi1)) (hNs _ (List.getElem_mem hj1))) rfl rfl rfl ?_
                    refine gops_nil ?_
                    refine ge_fin (TK := [mapr _ _ _ _, fr]) rfl (weak_refl) ?_
                    refine ge_take 9 (TK := [mapr _ _ _ _, fr]) rfl (by kernel_rfl) (by kernel_rfl) (by kernel_rfl) #[true, true, true, true, true, true, true, true, true, false, false, false, false, false, false, false, false, false] (by kernel_rfl) rfl (y_move (v := .bool _) rfl) rfl rfl rfl (weak_refl) (listed' := #[true, true, true, true, true, true, true, true, true, true, false, false, false, false, false, false, false, false]) rfl ?_
                    refine ge_dec 100 true rfl (fun hg100 => ?_) (fun hg100 => ?_)
                    · 
                      have hg100d := hg100
                      refine ge_take_on 10 (TK := [mapr _ _ _ _, fr]) rfl (by kernel_rfl) (by kernel_rfl) (by kernel_rfl) #[true, true, true, true, true, true, true, true, true, true, false, true, true, true, true, false, false, false] (by kernel_rfl) rfl rfl rfl rfl rfl hg100 (y_bare (y_load Tryd.isAgg67 rfl (fun w hM => (hF w (hM.ok _ (List.mem_of_getElem? (i := 1) rfl))).2.2.2.1))) rfl rfl (weak_refl) (listed' := #[true, true, true, true, true, true, true, true, true, true, true, false, false, false, false, false, false, false]) rfl ?_
                      refine ge_take_on 11 (TK := [mapr _ _ _ _, fr]) rfl (by kernel_rfl) (by kernel_rfl) (by kernel_rfl) #[true, true, true, true, true, true, true, true, true, true, true, false, false, true, true, false, false, false] (by kernel_rfl) rfl rfl rfl rfl rfl hg100 (y_bare (y_move (v := .int _ _) rfl)) rfl rfl (weak_refl) (listed' := #[true, true, true, true, true, true, true, true, true, true, true, true, false, false, false, false, false, false]) rfl ?_
                      refine ge_take_on 12 (TK := [mapr _ _ _ _, fr]) rfl (by kernel_rfl) (by kernel_rfl) (by kernel_rfl) #[true, true, true, true, true, true, true, true, true, true, true, true, false, true, true, false, false, false] (by kernel_rfl) rfl rfl rfl rfl rfl hg100 (y_bare (y_add rfl rfl ⟨by omega, by omega⟩)) rfl rfl (weak_refl) (listed' := #[true, true, true, true, true, true, true, true, true, true, true, true, true, false, false, false, false, false]) rfl ?_
                      refine ge_take_on 13 (TK := [mapr _ _ _ _, fr]) rfl (by kernel_rfl) (by kernel_rfl) (by kernel_rfl) #[true, true, true, true, true, true, true, true, true, true, true, true, true, false, false, false, false, false] (by kernel_rfl) rfl rfl rfl rfl rfl hg100 (y_bare (y_move (v := .int _ _) rfl)) rfl rfl (weak_refl) (listed' := #[true, true, true, true, true, true, true, true, true, true, true, true, true, true, false, false, false, false]) rfl ?_
                      refine ge_take_on 14 (TK := [mapr _ _ _ _, fr]) rfl (by kernel_rfl) (by kernel_rfl) (by kernel_rfl) #[true, true, true, true, true, true, true, true, true, true, true, true, true, true, false, false, false, false] (by kernel_rfl) rfl rfl rfl rfl rfl hg100 (y_bare (y_add rfl rfl ⟨by omega, by omega⟩)) rfl rfl (weak_refl) (listed' := #[true, true, true, true, true, true, true, true, true, true, true, true, true, true, true, false, false, false]) rfl ?_
                      refine ge_one 15 (k' := 1) (listed' := #[true, true, true, true, true, true, true, true, true, true, true, true, true, true, true, true, false, false]) (by kernel_rfl) rfl rfl rfl ?_
                      refine gop_on rfl rfl rfl rfl hg100 ?_
                      refine gop_does1 0 (fun v r G => ∃ l1, v = .bool (ovAt P N (i + 1) (j + 1)) ∧ r = mapr ek2 Value.bool mb l1 ∧ MemoOk (ovAt P N) l1 ∧ G = []) (e_callv (vs := [.int _ _, .int _ _]) (cs := [.pointer (some ⟨b5, 0, none⟩), .pointer (some ⟨b2, 0, none⟩), .pointer (some ⟨b3, 0, none⟩), .pointer (some ⟨b6, 0, none⟩)]) rfl Tryd.func45 rfl (by kernel_rfl) rfl) rfl (fun w fr1 hfr hM => (ih (P.length - (i + 1) + (N.length - (j + 1))) (by omega) (i + 1) (j + 1) w _ fr1 (fun w1 ho => hF w1 (hfr 1 _ rfl (by decide) w1 ho)) rfl (by omega) (by omega) hl hM).mono fun _ _ ⟨he, l1, h1, h2⟩ => ⟨_, _, [], he, ⟨l1, rfl, rfl, h1, rfl⟩, h2⟩) rfl rfl rfl ?_
                      rintro _ _ _ ⟨l1, rfl, rfl, hl1, rfl⟩
                      refine gops_nil ?_
                      refine ge_fin (TK := []) rfl (weak_nil) ?_
                      refine ge_take 16 (TK := []) rfl (by kernel_rfl) (by kernel_rfl) (by kernel_rfl) #[true, true, true, true, true, true, true, true, true, true, true, true, true, true, true, true, false, false] (by kernel_rfl) rfl (y_pick_t (v := .bool _) rfl hg100 rfl) rfl rfl rfl (weak_nil) (listed' := #[true, true, true, true, true, true, true, true, true, true, true, true, true, true, true, true, true, false]) rfl ?_
                      refine ge_take 17 (TK := []) rfl (by kernel_rfl) (by kernel_rfl) (by kernel_rfl) #[true, true, true, true, true, true, true, true, true, true, true, true, true, true, true, true, true, false] (by kernel_rfl) rfl (y_assign (v := .bool _) rfl) rfl rfl rfl (weak_nil) (listed' := #[true, true, true, true, true, true, true, true, true, true, true, true, true, true, true, true, true, true]) rfl ?_
                      refine ge_done (by kernel_rfl) ?_
                      refine gcut3_end (l1) (hl1) ⟨congrArg Value.bool (by rw [ov_both hi1 hc38 hj1 hc62, hg100d, Bool.true_and]), trivial⟩ ⟨rfl, rfl, rfl, trivial⟩ ⟨_, rfl⟩
                    · 
                      have hg100d := hg100
                      refine ge_take_off 10 (TK := [mapr _ _ _ _, fr]) rfl (by kernel_rfl) (by kernel_rfl) (by kernel_rfl) #[true, true, true, true, true, true, true, true, true, true, false, true, true, true, true, false, false, false] (by kernel_rfl) rfl rfl rfl rfl rfl (off_of hg100) rfl rfl (weak_refl) (listed' := #[true, true, true, true, true, true, true, true, true, true, true, false, false, false, false, false, false, false]) rfl ?_
                      refine ge_take_off 11 (TK := [mapr _ _ _ _, fr]) rfl (by kernel_rfl) (by kernel_rfl) (by kernel_rfl) #[true, true, true, true, true, true, true, true, true, true, true, false, false, true, true, false, false, false] (by kernel_rfl) rfl rfl rfl rfl rfl (off_of hg100) rfl rfl (weak_refl) (listed' := #[true, true, true, true, true, true, true, true, true, true, true, true, false, false, false, false, false, false]) rfl ?_
                      refine ge_take_off 12 (TK := [mapr _ _ _ _, fr]) rfl (by kernel_rfl) (by kernel_rfl) (by kernel_rfl) #[true, true, true, true, true, true, true, true, true, true, true, true, false, true, true, false, false, false] (by kernel_rfl) rfl rfl rfl rfl rfl (off_of hg100) rfl rfl (weak_refl) (listed' := #[true, true, true, true, true, true, true, true, true, true, true, true, true, false, false, false, false, false]) rfl ?_
                      refine ge_take_off 13 (TK := [mapr _ _ _ _, fr]) rfl (by kernel_rfl) (by kernel_rfl) (by kernel_rfl) #[true, true, true, true, true, true, true, true, true, true, true, true, true, false, false, false, false, false] (by kernel_rfl) rfl rfl rfl rfl rfl (off_of hg100) rfl rfl (weak_refl) (listed' := #[true, true, true, true, true, true, true, true, true, true, true, true, true, true, false, false, false, false]) rfl ?_
                      refine ge_take_off 14 (TK := [mapr _ _ _ _, fr]) rfl (by kernel_rfl) (by kernel_rfl) (by kernel_rfl) #[true, true, true, true, true, true, true, true, true, true, true, true, true, true, false, false, false, false] (by kernel_rfl) rfl rfl rfl rfl rfl (off_of hg100) rfl rfl (weak_refl) (listed' := #[true, true, true, true, true, true, true, true, true, true, true, true, true, true, true, false, false, false]) rfl ?_
                      refine ge_one 15 (k' := 1) (listed' := #[true, true, true, true, true, true, true, true, true, true, true, true, true, true, true, true, false, false]) (by kernel_rfl) rfl rfl rfl ?_
                      refine gop_off rfl rfl rfl rfl hg100 rfl rfl ?_
                      refine gops_nil ?_
                      refine ge_fin (TK := []) rfl (weak_nil) ?_
                      refine ge_take 16 (TK := []) rfl (by kernel_rfl) (by kernel_rfl) (by kernel_rfl) #[true, true, true, true, true, true, true, true, true, true, true, true, true, true, true, true, false, false] (by kernel_rfl) rfl (y_pick_f (v := .bool _) rfl hg100 rfl) rfl rfl rfl (weak_nil) (listed' := #[true, true, true, true, true, true, true, true, true, true, true, true, true, true, true, true, true, false]) rfl ?_
                      refine ge_take 17 (TK := []) rfl (by kernel_rfl) (by kernel_rfl) (by kernel_rfl) #[true, true, true, true, true, true, true, true, true, true, true, true, true, true, true, true, true, false] (by kernel_rfl) rfl (y_assign (v := .bool _) rfl) rfl rfl rfl (weak_nil) (listed' := #[true, true, true, true, true, true, true, true, true, true, true, true, true, true, true, true, true, true]) rfl ?_
                      refine ge_done (by kernel_rfl) ?_
                      refine gcut3_end (l) (hl) ⟨congrArg Value.bool (by rw [ov_both hi1 hc38 hj1 hc62, hg100d]; rfl), trivial⟩ ⟨rfl, rfl, rfl, trivial⟩ ⟨_, rfl⟩
                  · 
                    replace hc86 := of_decide_eq_false hc86
                    exfalso; omega
                · 
                  have hg88d := of_decide_eq_false hg88
                  exfalso; omega
            · 
              have hg64d := of_decide_eq_false hg64
              refine gop_off rfl rfl rfl rfl hg64 rfl rfl ?_
              refine gop_off rfl rfl rfl rfl hg64 rfl rfl ?_
              refine gop_off rfl rfl rfl rfl hg64 rfl rfl ?_
              refine gop_off rfl rfl rfl rfl hg64 rfl rfl ?_
              refine gop (y_pick_f (v := .bool _) rfl hg64 rfl) rfl rfl rfl ?_
              refine gop (y_assign (v := .bool _) rfl) rfl rfl rfl ?_
              refine gops_nil ?_
              refine hN10 _ _ ?_
              refine gfrom [(0, .int _ _), (1, .int _ _), (2, .pointer (some _)), (3, .pointer (some _)), (4, .pointer (some _)), (5, .pointer (some _)), (11, .bool _), (12, .bool _), (13, .bool _), (62, .bool _)] ⟨rfl, rfl, rfl, rfl, rfl, rfl, rfl, rfl, rfl, rfl, trivial⟩ fun σ => ?_
              refine gcond (b := _) rfl (fun hc62 => ?_) (fun hc62 => ?_)
              · 
                cases hc62
              · 
                refine gseq fun N12 hN12 => ?_
                refine greg ?_
                refine gop (y_move (v := .bool _) rfl) rfl rfl rfl ?_
                refine gop (y_move (v := .bool _) rfl) rfl rfl rfl ?_
                refine gop_if (want := true) rfl rfl rfl rfl rfl rfl (fun hg88 => ?_) (fun hg88 => ?_)
                · 
                  have hg88d := of_decide_eq_true hg88
                  refine gop (y_bare (y_move (v := .bool _) rfl)) rfl rfl rfl ?_
                  refine gop (y_pick_t (v := .bool _) rfl hg88 rfl) rfl rfl rfl ?_
                  refine gop (y_assign (v := .bool _) rfl) rfl rfl rfl ?_
                  refine gops_nil ?_
                  refine hN12 _ _ ?_
                  refine gfrom [(0, .int _ _), (1, .int _ _), (2, .pointer (some _)), (3, .pointer (some _)), (4, .pointer (some _)), (5, .pointer (some _)), (13, .bool _), (86, .bool _)] ⟨rfl, rfl, rfl, rfl, rfl, rfl, rfl, rfl, trivial⟩ fun σ => ?_
                  refine gcond (b := _) rfl (fun hc86 => ?_) (fun hc86 => ?_)
                  · 
                    replace hc86 := of_decide_eq_true hc86
                    exfalso; omega
                  · 
                    replace hc86 := of_decide_eq_false hc86
                    refine gskip ?_
                    refine gcut3_end (l) (hl) ⟨congrArg Value.bool (by rw [ov_one hi1 hc38 (by omega), decide_eq_false (fun h => h hi1)]; rfl), trivial⟩ ⟨rfl, rfl, rfl, trivial⟩ ⟨_, rfl⟩
                · 
                  have hg88d := of_decide_eq_false hg88
                  exfalso; omega
        · 
          have hg40d := of_decide_eq_false hg40
          refine gop_off rfl rfl rfl rfl hg40 rfl rfl ?_
          refine gop_off rfl rfl rfl rfl hg40 rfl rfl ?_
          refine gop_off rfl rfl rfl rfl hg40 rfl rfl ?_
          refine gop_off rfl rfl rfl rfl hg40 rfl rfl ?_
          refine gop (y_pick_f (v := .bool _) rfl hg40 rfl) rfl rfl rfl ?_
          refine gop (y_assign (v := .bool _) rfl) rfl rfl rfl ?_
          refine gops_nil ?_
          refine hN9 _ _ ?_
          refine gfrom [(0, .int _ _), (1, .int _ _), (2, .pointer (some _)), (3, .pointer (some _)), (4, .pointer (some _)), (5, .pointer (some _)), (11, .bool _), (12, .bool _), (13, .bool _), (38, .bool _)] ⟨rfl, rfl, rfl, rfl, rfl, rfl, rfl, rfl, rfl, rfl, trivial⟩ fun σ => ?_
          refine gcond (b := _) rfl (fun hc38 => ?_) (fun hc38 => ?_)
          · 
            cases hc38
          · 
            have hno : i < P.length → strEq (P[i]?.getD ⟨#[]⟩) sStars = false := by
              intro hi2
              rw [List.getElem?_eq_getElem hi2]
              first | exact hc38 | (exfalso; omega)
            refine gseq fun N13 hN13 => ?_
            refine greg ?_
            refine gop (y_move (v := .bool _) rfl) rfl rfl rfl ?_
            refine gop (y_move (v := .bool _) rfl) rfl rfl rfl ?_
            refine gop_if (want := true) rfl rfl rfl rfl rfl rfl (fun hg64 => ?_) (fun hg64 => ?_)
            · 
              have hg64d := of_decide_eq_true hg64
              have hj1 : j < N.length := by omega
              obtain ⟨ad2, rfl, -, -⟩ := (hF w (hM0.ok _ (List.mem_of_getElem? (i := 1) rfl))).2.2.2.2.2.at_ hj1
              refine gop (y_bare (y_load Tryd.isAgg37 rfl (fun w hM => (hF w (hM.ok _ (List.mem_of_getElem? (i := 1) rfl))).2.2.1))) rfl rfl rfl ?_
              refine gop_on rfl rfl rfl rfl hg64 ?_
              refine gop (y_bare (y_move (v := .int _ _) rfl)) rfl rfl rfl ?_
              refine gop_on rfl rfl rfl rfl hg64 ?_
              refine gop (y_bare (y_indexAddr (m := j) Tryd.underlying37 Tryd.sizeOf9 rfl rfl (by omega) (by omega) (by omega))) rfl rfl rfl ?_
              refine gop_on rfl rfl rfl rfl hg64 ?_
              refine gop (y_bare (y_load Tryd.isAgg9 rfl (rdl_cell 1 rfl (fun w1 ho => (hF w1 ho).2.2.2.2.2) hj1))) rfl rfl rfl ?_
              refine gop_on rfl rfl rfl rfl hg64 ?_
              refine gop (y_bare (y_eqls rfl rfl)) rfl rfl rfl ?_
              refine gop (y_pick_t (v := .bool _) rfl hg64 rfl) rfl rfl rfl ?_
              refine gop (y_assign (v := .bool _) rfl) rfl rfl rfl ?_
              refine gops_nil ?_
              refine hN13 _ _ ?_
              refine gfrom [(0, .int _ _), (1, .int _ _), (2, .pointer (some _)), (3, .pointer (some _)), (4, .pointer (some _)), (5, .pointer (some _)), (11, .bool _), (12, .bool _), (13, .bool _), (62, .bool _)] ⟨rfl, rfl, rfl, rfl, rfl, rfl, rfl, rfl, rfl, rfl, trivial⟩ fun σ => ?_
              refine gcond (b := _) rfl (fun hc62 => ?_) (fun hc62 => ?_)
              · 
                refine greg ?_
                refine gop (y_load Tryd.isAgg67 rfl (fun w hM => (hF w (hM.ok _ (List.mem_of_getElem? (i := 1) rfl))).2.2.2.1)) rfl rfl rfl ?_
                refine gop (y_move (v := .int _ _) rfl) rfl rfl rfl ?_
                refine gop (y_move (v := .int _ _) rfl) rfl rfl rfl ?_
                refine gop (y_add rfl rfl ⟨by omega, by omega⟩) rfl rfl rfl ?_
                refine gop_does1 0 (fun v r G => ∃ l1, v = .bool (ovAt P N (i) (j + 1)) ∧ r = mapr ek2 Value.bool mb l1 ∧ MemoOk (ovAt P N) l1 ∧ G = []) (e_callv (vs := [.int _ _, .int _ _]) (cs := [.pointer (some ⟨b5, 0, none⟩), .pointer (some ⟨b2, 0, none⟩), .pointer (some ⟨b3, 0, none⟩), .pointer (some ⟨b6, 0, none⟩)]) rfl Tryd.func45 rfl (by kernel_rfl) rfl) rfl (fun w fr1 hfr hM => (ih (P.length - (i) + (N.length - (j + 1))) (by omega) (i) (j + 1) w _ fr1 (fun w1 ho => hF w1 (hfr 1 _ rfl (by decide) w1 ho)) rfl (by omega) (by omega) hl hM).mono fun _ _ ⟨he, l1, h1, h2⟩ => ⟨_, _, [], he, ⟨l1, rfl, rfl, h1, rfl⟩, h2⟩) rfl rfl rfl ?_
                rintro _ _ _ ⟨l1, rfl, rfl, hl1, rfl⟩
                refine gop (y_move (v := .bool _) rfl) rfl rfl rfl ?_
                refine gop_if (want := false) rfl rfl rfl rfl rfl rfl (fun hg76 => ?_) (fun hg76 => ?_)
                · 
                  have hg76d := hg76
                  refine gop (y_bare (y_move (v := .bool _) rfl)) rfl rfl rfl ?_
                  refine gop_on rfl rfl rfl rfl hg76 ?_
                  refine gop (y_bare (y_move (v := .bool _) rfl)) rfl rfl rfl ?_
                  refine gop_if (want := true) rfl rfl rfl rfl rfl rfl (fun hg78 => ?_) (fun hg78 => ?_)
                  · 
                    have hg78d := of_decide_eq_true hg78
                    exfalso; omega
                  · 
                    have hg78d := of_decide_eq_false hg78
                    refine gop_off rfl rfl rfl rfl hg78 rfl rfl ?_
                    refine gop_off rfl rfl rfl rfl hg78 rfl rfl ?_
                    refine gop_off rfl rfl rfl rfl hg78 rfl rfl ?_
                    refine gop_off rfl rfl rfl rfl hg78 rfl rfl ?_
                    refine gop_on rfl rfl rfl rfl hg76 ?_
                    refine gop (y_bare (y_pick_f (v := .bool _) rfl hg78 rfl)) rfl rfl rfl ?_
                    refine gop (y_pick_f (v := .bool _) rfl hg76 rfl) rfl rfl rfl ?_
                    refine gop (y_assign (v := .bool _) rfl) rfl rfl rfl ?_
                    refine gops_nil ?_
                    refine gcut3_end (l1) (hl1) ⟨congrArg Value.bool ((ov_oth3 hno hj1 hc62 hg76d (by omega)).symm), trivial⟩ ⟨rfl, rfl, rfl, trivial⟩ ⟨_, rfl⟩
                · 
                  have hg76d := hg76
                  refine gop_off rfl rfl rfl rfl hg76 rfl rfl ?_
                  refine gop_offu rfl rfl rfl rfl rfl rfl ?_
                  refine gop_offu rfl rfl rfl rfl rfl rfl ?_
                  refine gop_offu rfl rfl rfl rfl rfl rfl ?_
                  refine gop_offu rfl rfl rfl rfl rfl rfl ?_
                  refine gop_offu rfl rfl rfl rfl rfl rfl ?_
                  refine gop_off rfl rfl rfl rfl hg76 rfl rfl ?_
                  refine gop (y_pick_t (v := .bool _) rfl hg76 rfl) rfl rfl rfl ?_
                  refine gop (y_assign (v := .bool _) rfl) rfl rfl rfl ?_
                  refine gops_nil ?_
                  refine gcut3_end (l1) (hl1) ⟨congrArg Value.bool ((ov_oth1 hno hj1 hc62 (by simpa using hg76d)).symm), trivial⟩ ⟨rfl, rfl, rfl, trivial⟩ ⟨_, rfl⟩
              · 
                refine gseq fun N14 hN14 => ?_
                refine greg ?_
                refine gop (y_move (v := .bool _) rfl) rfl rfl rfl ?_
                refine gop (y_move (v := .bool _) rfl) rfl rfl rfl ?_
                refine gop_if (want := true) rfl rfl rfl rfl rfl rfl (fun hg88 => ?_) (fun hg88 => ?_)
                · 
                  have hg88d := of_decide_eq_true hg88
                  exfalso; omega
                · 
                  have hg88d := of_decide_eq_false hg88
                  refine gop (y_pick_f (v := .bool _) rfl hg88 rfl) rfl rfl rfl ?_
                  refine gop (y_assign (v := .bool _) rfl) rfl rfl rfl ?_
                  refine gops_nil ?_
                  refine hN14 _ _ ?_
                  refine gfrom [(0, .int _ _), (1, .int _ _), (2, .pointer (some _)), (3, .pointer (some _)), (4, .pointer (some _)), (5, .pointer (some _)), (13, .bool _), (86, .bool _)] ⟨rfl, rfl, rfl, rfl, rfl, rfl, rfl, rfl, trivial⟩ fun σ => ?_
                  refine gcond (b := _) rfl (fun hc86 => ?_) (fun hc86 => ?_)
                  · 
                    cases hc86
                  · 
                    refine gskip ?_
                    refine gcut3_end (l) (hl) ⟨congrArg Value.bool (by rw [ov_two (by omega) hj1 hc62, decide_eq_false (fun h : ¬ j < N.length => h hj1), Bool.and_false]), trivial⟩ ⟨rfl, rfl, rfl, trivial⟩ ⟨_, rfl⟩
            · 
              have hg64d := of_decide_eq_false hg64
              refine gop_off rfl rfl rfl rfl hg64 rfl rfl ?_
              refine gop_off rfl rfl rfl rfl hg64 rfl rfl ?_
              refine gop_off rfl rfl rfl rfl hg64 rfl rfl ?_
              refine gop_off rfl rfl rfl rfl hg64 rfl rfl ?_
              refine gop (y_pick_f (v := .bool _) rfl hg64 rfl) rfl rfl rfl ?_
              refine gop (y_assign (v := .bool _) rfl) rfl rfl rfl ?_
              refine gops_nil ?_
              refine hN13 _ _ ?_
              refine gfrom [(0, .int _ _), (1, .int _ _), (2, .pointer (some _)), (3, .pointer (some _)), (4, .pointer (some _)), (5, .pointer (some _)), (11, .bool _), (12, .bool _), (13, .bool _), (62, .bool _)] ⟨rfl, rfl, rfl, rfl, rfl, rfl, rfl, rfl, rfl, rfl, trivial⟩ fun σ => ?_
              refine gcond (b := _) rfl (fun hc62 => ?_) (fun hc62 => ?_)
              · 
                cases hc62
              · 
                refine gseq fun N15 hN15 => ?_
                refine greg ?_
                refine gop (y_move (v := .bool _) rfl) rfl rfl rfl ?_
                refine gop (y_move (v := .bool _) rfl) rfl rfl rfl ?_
                refine gop_if (want := true) rfl rfl rfl rfl rfl rfl (fun hg88 => ?_) (fun hg88 => ?_)
                · 
                  have hg88d := of_decide_eq_true hg88
                  exfalso; omega
                · 
                  have hg88d := of_decide_eq_false hg88
                  refine gop (y_pick_f (v := .bool _) rfl hg88 rfl) rfl rfl rfl ?_
                  refine gop (y_assign (v := .bool _) rfl) rfl rfl rfl ?_
                  refine gops_nil ?_
                  refine hN15 _ _ ?_
                  refine gfrom [(0, .int _ _), (1, .int _ _), (2, .pointer (some _)), (3, .pointer (some _)), (4, .pointer (some _)), (5, .pointer (some _)), (13, .bool _), (86, .bool _)] ⟨rfl, rfl, rfl, rfl, rfl, rfl, rfl, rfl, trivial⟩ fun σ => ?_
                  refine gcond (b := _) rfl (fun hc86 => ?_) (fun hc86 => ?_)
                  · 
                    cases hc86
                  · 
                    refine gskip ?_
                    refine gcut3_end (l) (hl) ⟨congrArg Value.bool (by rw [ov_end (by omega) (by omega), decide_eq_true (by omega), decide_eq_true (by omega)]; rfl), trivial⟩ ⟨rfl, rfl, rfl, trivial⟩ ⟨_, rfl⟩
      ·
        intro l1 hcut σ
        refine hN8 _ _ ?_
        have hl1 := hcut
        refine gseq fun N16 hN16 => ?_
        refine greg ?_
        refine gop (y_load Tryd.isAgg66 rfl (fun w hM => (hF w (hM.ok _ (List.mem_of_getElem? (i := 1) rfl))).1)) rfl rfl rfl ?_
        refine gop (y_move (v := .int _ _) rfl) rfl rfl rfl ?_
        refine gop (y_move (v := .int _ _) rfl) rfl rfl rfl ?_
        refine gop (y_build (vs := [(0, .int _ _), (1, .int _ _)]) (cells := #[_, _]) rfl (bd69_0_1 _ _)) rfl rfl rfl ?_
        refine gop (y_move (v := .bool _) rfl) rfl rfl rfl ?_
        refine gop_mapUpdate 0 key2 Tryd.underlying66 rfl ((i, j)) (_) rfl rfl rfl rfl rfl ?_
        refine gops_nil ?_
        refine hN16 _ _ ?_
        refine gT [mapr _ _ _ _, fr] rfl ?_
        refine gfrom [(13, .bool _)] ⟨rfl, trivial⟩ fun σ => ?_
        refine gseq fun N17 hN17 => ?_
        refine greg ?_
        refine gop (y_move (v := .bool _) rfl) rfl rfl rfl ?_
        refine gop (y_assign (v := .bool _) rfl) rfl rfl rfl ?_
        refine gops_nil ?_
        refine hN17 _ _ ?_
        refine gfrom [(8, .bool _)] ⟨rfl, trivial⟩ fun σ => ?_
        refine gret fun w1 hM => ?_
        refine ⟨_, res1 rfl (rt (v := .bool _) rfl), ?_⟩
        exact ⟨rfl, _, memo_put hl1 i j, hM⟩
set_option maxHeartbeats 2000000 in
theorem over_any (w : World) (a b : ByteArray) : Calls Tryd.prog 15 #[.string a, .string b] w fun e w' => e = .returned (.tuple #[.bool (overV a b), fv (overF a b)]) ∧ Below w.heap.size w w' := by
  have hc1 := cutS_len a
  have hc2 := cutS_len b
  refine gcalls Tryd.func15 rfl Tryd.ntmps15 (Nat.le_of_ble_eq_true rfl) ?_
  refine gfrom [(0, .string _), (1, .string _)] ⟨rfl, rfl, trivial⟩ fun σ => ?_
  refine gseq fun N1 hN1 => ?_
  refine greg ?_
  refine gop (y_assign (v := .bool _) rfl) rfl rfl rfl ?_
  refine gop_alloc (cs := #[.int .i64 0, .int .i64 0]) Tryd.zeroValue23 rfl rfl (fun b5 hb5 => ?_)
  refine gops_nil ?_
  refine hN1 _ _ ?_
  refine gT [box b5 _] rfl ?_
  refine gfrom [(0, .string _), (1, .string _), (5, .pointer _)] ⟨rfl, rfl, rfl, trivial⟩ fun σ => ?_
  refine gseq fun N2 hN2 => ?_
  refine gseq fun N3 hN3 => ?_
  refine greg ?_
  refine gop (y_move (v := .string _) rfl) rfl rfl rfl ?_
  refine gop_pure (e_call (vs := [.string _]) Tryd.func38 rfl (by kernel_rfl) rfl) (fun w hM => validate_any w _) rfl rfl rfl ?_
  refine gop_alloc (cs := #[.int .i64 0, .int .i64 0]) Tryd.zeroValue23 rfl rfl (fun b6 hb6 => ?_)
  refine gop_store 1 (v := .agg #[_, _]) (cs' := #[_, _]) rfl rfl Tryd.sizeOf23 rfl rfl rfl rfl (Nat.le_of_ble_eq_true rfl) rfl rfl ?_
  refine gops_nil ?_
  refine hN3 _ _ ?_
  refine gT [box b5 _, box b6 _] rfl ?_
  refine gfrom [(0, .string _), (1, .string _), (5, .pointer _), (6, .pointer _)] ⟨rfl, rfl, rfl, rfl, trivial⟩ fun σ => ?_
  refine gseq fun N4 hN4 => ?_
  refine greg ?_
  refine gop (y_loads (cs := [_, _]) Tryd.isAgg23 Tryd.sizeOf23 rfl rfl (cells_box 1 rfl)) rfl rfl rfl ?_
  refine gop (y_build (vs := []) (cells := #[.int .i64 0, .int .i64 0]) rfl bd23_) rfl rfl rfl ?_
  refine gop (y_bin (vx := .agg #[_, _]) (vy := .agg #[_, _]) rfl rfl (fun w => eg23 _ _ _ _ _ w) (fun w => ne23 _ _ _ _ w)) rfl rfl rfl ?_
  refine gops_nil ?_
  refine hN4 _ _ ?_
  refine gfrom [(0, .string _), (1, .string _), (5, .pointer _), (6, .pointer _), (16, .bool _)] ⟨rfl, rfl, rfl, rfl, rfl, trivial⟩ fun σ => ?_
  refine gcond (b := _) rfl (fun hc16 => ?_) (fun hc16 => ?_)
  · 
    replace hc16 := fault_ne.1 hc16
    refine gseq fun N5 hN5 => ?_
    refine greg_e1 [] [(0, room b5 23 2)] (by kernel_rfl) ?_
    refine ge_take 0 (TK := [room b5 23 2, box b6 _]) rfl (by kernel_rfl) (by kernel_rfl) (by kernel_rfl) #[false, true, false] (by kernel_rfl) rfl (y_loads (cs := [_, _]) Tryd.isAgg23 Tryd.sizeOf23 rfl rfl (cells_box 1 rfl)) rfl rfl rfl (weak_room 0 rfl rfl) (listed' := #[true, false, false]) rfl ?_
    refine ge_take 1 (TK := [room b5 23 2, box b6 _]) rfl (by kernel_rfl) (by kernel_rfl) (by kernel_rfl) #[true, false, false] (by kernel_rfl) rfl (y_assign (v := .bool _) rfl) rfl rfl rfl (weak_room 0 rfl rfl) (listed' := #[true, true, false]) rfl ?_
    refine ge_one 2 (k' := 0) (listed' := #[true, true, true]) (by kernel_rfl) rfl rfl rfl ?_
    refine gop_store 0 (v := .agg #[_, _]) (cs' := #[_, _]) rfl rfl Tryd.sizeOf23 rfl rfl rfl rfl (Nat.le_of_ble_eq_true rfl) rfl rfl ?_
    refine gops_nil ?_
    refine ge_fin (TK := [room b5 23 2, box b6 _]) rfl (weak_room 0 rfl rfl) ?_
    refine ge_done (by kernel_rfl) ?_
    refine hN5 _ _ ?_
    refine gT [box b5 _, box b6 _] rfl ?_
    refine gfrom [(4, .bool _), (5, .pointer _)] ⟨rfl, rfl, trivial⟩ fun σ => ?_
    refine gret fun w1 hM => ?_
    refine ⟨_, res2 rfl (rt (v := .bool _) rfl) (rc 0 (cs := [_, _]) hM rfl rfl Tryd.isAgg23 Tryd.sizeOf23 rfl), ?_⟩
    exact ⟨by rw [overV, overF, if_neg (fun h => hc16 h.1), if_pos hc16], hM.low⟩
  · 
    replace hc16 := fault_eq.1 hc16
    have ha60 := patFault_size hc16
    refine gskip ?_
    refine hN2 _ _ ?_
    refine gfrom [(0, .string _), (1, .string _), (5, .pointer _)] ⟨rfl, rfl, rfl, trivial⟩ fun σ => ?_
    refine gseq fun N6 hN6 => ?_
    refine gseq fun N7 hN7 => ?_
    refine greg ?_
    refine gop (y_move (v := .string _) rfl) rfl rfl rfl ?_
    refine gop_pure (e_call (vs := [.string _]) Tryd.func38 rfl (by kernel_rfl) rfl) (fun w hM => validate_any w _) rfl rfl rfl ?_
    refine gop_alloc (cs := #[.int .i64 0, .int .i64 0]) Tryd.zeroValue23 rfl rfl (fun b7 hb7 => ?_)
    refine gop_store 2 (v := .agg #[_, _]) (cs' := #[_, _]) rfl rfl Tryd.sizeOf23 rfl rfl rfl rfl (Nat.le_of_ble_eq_true rfl) rfl rfl ?_
    refine gops_nil ?_
    refine hN7 _ _ ?_
    refine gT [box b5 _, box b6 _, box b7 _] rfl ?_
    refine gfrom [(0, .string _), (1, .string _), (5, .pointer _), (7, .pointer _)] ⟨rfl, rfl, rfl, rfl, trivial⟩ fun σ => ?_
    refine gseq fun N8 hN8 => ?_
    refine greg ?_
    refine gop (y_loads (cs := [_, _]) Tryd.isAgg23 Tryd.sizeOf23 rfl rfl (cells_box 2 rfl)) rfl rfl rfl ?_
    refine gop (y_build (vs := []) (cells := #[.int .i64 0, .int .i64 0]) rfl bd23_) rfl rfl rfl ?_
    refine gop (y_bin (vx := .agg #[_, _]) (vy := .agg #[_, _]) rfl rfl (fun w => eg23 _ _ _ _ _ w) (fun w => ne23 _ _ _ _ w)) rfl rfl rfl ?_
    refine gops_nil ?_
    refine hN8 _ _ ?_
    refine gfrom [(0, .string _), (1, .string _), (5, .pointer _), (7, .pointer _), (22, .bool _)] ⟨rfl, rfl, rfl, rfl, rfl, trivial⟩ fun σ => ?_
    refine gcond (b := _) rfl (fun hc22 => ?_) (fun hc22 => ?_)
    · 
      replace hc22 := fault_ne.1 hc22
      refine gseq fun N9 hN9 => ?_
      refine greg_e1 [] [(0, room b5 23 2)] (by kernel_rfl) ?_
      refine ge_take 0 (TK := [room b5 23 2, box b6 _, box b7 _]) rfl (by kernel_rfl) (by kernel_rfl) (by kernel_rfl) #[false, false, false, true, false] (by kernel_rfl) rfl (y_fieldAddr_box fa23_0 rfl) rfl rfl rfl (weak_room 0 rfl rfl) (listed' := #[true, false, false, false, false]) rfl ?_
      refine ge_take 1 (TK := [room b5 23 2, box b6 _, box b7 _]) rfl (by kernel_rfl) (by kernel_rfl) (by kernel_rfl) #[true, false, false, true, false] (by kernel_rfl) rfl (y_load Tryd.isAgg3 rfl (cell_box 2 rfl rfl)) rfl rfl rfl (weak_room 0 rfl rfl) (listed' := #[true, true, false, false, false]) rfl ?_
      refine ge_take 2 (TK := [room b5 23 2, box b6 _, box b7 _]) rfl (by kernel_rfl) (by kernel_rfl) (by kernel_rfl) #[true, true, false, true, false] (by kernel_rfl) rfl (y_build (vs := [(0, .int _ _), (1, _)]) (cells := #[_, _]) rfl (bd23_0_1 _ _)) rfl rfl rfl (weak_room 0 rfl rfl) (listed' := #[true, true, true, false, false]) rfl ?_
      refine ge_take 3 (TK := [room b5 23 2, box b6 _, box b7 _]) rfl (by kernel_rfl) (by kernel_rfl) (by kernel_rfl) #[true, true, true, false, false] (by kernel_rfl) rfl (y_assign (v := .bool _) rfl) rfl rfl rfl (weak_room 0 rfl rfl) (listed' := #[true, true, true, true, false]) rfl ?_
      refine ge_one 4 (k' := 0) (listed' := #[true, true, true, true, true]) (by kernel_rfl) rfl rfl rfl ?_
      refine gop_store 0 (v := .agg #[_, _]) (cs' := #[_, _]) rfl rfl Tryd.sizeOf23 rfl rfl rfl rfl (Nat.le_of_ble_eq_true rfl) rfl rfl ?_
      refine gops_nil ?_
      refine ge_fin (TK := [room b5 23 2, box b6 _, box b7 _]) rfl (weak_room 0 rfl rfl) ?_
      refine ge_done (by kernel_rfl) ?_
      refine hN9 _ _ ?_
      refine gT [box b5 _, box b6 _, box b7 _] rfl ?_
      refine gfrom [(4, .bool _), (5, .pointer _)] ⟨rfl, rfl, trivial⟩ fun σ => ?_
      refine gret fun w1 hM => ?_
      refine ⟨_, res2 rfl (rt (v := .bool _) rfl) (rc 0 (cs := [_, _]) hM rfl rfl Tryd.isAgg23 Tryd.sizeOf23 rfl), ?_⟩
      exact ⟨by rw [overV, overF, if_neg (fun h => hc22 h.2), if_neg (fun h => h hc16), if_pos hc22], hM.low⟩
    · 
      replace hc22 := fault_eq.1 hc22
      have hb60 := patFault_size hc22
      refine gskip ?_
      refine hN6 _ _ ?_
      refine gfrom [(0, .string _), (1, .string _), (5, .pointer _)] ⟨rfl, rfl, rfl, trivial⟩ fun σ => ?_
      refine gseq fun N10 hN10 => ?_
      refine greg ?_
      refine gop (y_move (v := .string _) rfl) rfl rfl rfl ?_
      refine gop_got (fun v T' => ∃ lo, w.heap.size ≤ lo ∧ T' = [rowl strCells lo 9 1 v (cutS a)]) (e_call (vs := [.string _, _]) Tryd.func44 rfl (by kernel_rfl) rfl) (fun w hM => (split_any w a (by omega)).mono fun _ _ ⟨v, T1, h1, h2, h3⟩ => ⟨v, T1, h1, ⟨_, hM.low.size, h2⟩, h3⟩) rfl rfl rfl ?_
      rintro v27 _ ⟨lo27, hlo27, rfl⟩
      refine gops_fact (fun w hM => row_form (hM.ok _ (List.mem_of_getElem? (i := 3) rfl))) ?_
      rintro ⟨A27, c27, rfl, hc27, hm27, hn27⟩
      refine gop (y_move (v := .string _) rfl) rfl rfl rfl ?_
      refine gop_got (fun v T' => ∃ lo, w.heap.size ≤ lo ∧ T' = [rowl strCells lo 9 1 v (cutS b)]) (e_call (vs := [.string _, _]) Tryd.func44 rfl (by kernel_rfl) rfl) (fun w hM => (split_any w b (by omega)).mono fun _ _ ⟨v, T1, h1, h2, h3⟩ => ⟨v, T1, h1, ⟨_, hM.low.size, h2⟩, h3⟩) rfl rfl rfl ?_
      rintro v29 _ ⟨lo29, hlo29, rfl⟩
      refine gops_fact (fun w hM => row_form (hM.ok _ (List.mem_of_getElem? (i := 4) rfl))) ?_
      rintro ⟨A29, c29, rfl, hc29, hm29, hn29⟩
      refine gop_alloc (cs := #[.slice none 0 0]) Tryd.zeroValue37 rfl rfl (fun b8 hb8 => ?_)
      refine gop_alloc (cs := #[.slice none 0 0]) Tryd.zeroValue37 rfl rfl (fun b9 hb9 => ?_)
      refine gop_store 5 (v := .slice A27 _ c27) (cs' := #[_]) rfl rfl Tryd.sizeOf37 rfl rfl rfl rfl (Nat.le_of_ble_eq_true rfl) rfl rfl ?_
      refine gop_store 6 (v := .slice A29 _ c29) (cs' := #[_]) rfl rfl Tryd.sizeOf37 rfl rfl rfl rfl (Nat.le_of_ble_eq_true rfl) rfl rfl ?_
      refine gops_nil ?_
      refine hN10 _ _ ?_
      refine gT [box b5 _, box b6 _, box b7 _, rowl _ _ _ _ _ _, rowl _ _ _ _ _ _, box b8 _, box b9 _] rfl ?_
      refine gfrom [(5, .pointer _), (8, .pointer _), (9, .pointer _)] ⟨rfl, rfl, rfl, trivial⟩ fun σ => ?_
      refine gseq fun N11 hN11 => ?_
      refine greg ?_
      refine gop_makeMap ek2 Value.bool rfl (fun b30 hb30 => ?_)
      refine gop_alloc (cs := #[.map none]) Tryd.zeroValue66 rfl rfl (fun b10 hb10 => ?_)
      refine gop_store 8 (v := .map (some b30)) (cs' := #[_]) rfl rfl Tryd.sizeOf66 rfl rfl rfl rfl (Nat.le_of_ble_eq_true rfl) rfl rfl ?_
      refine gops_nil ?_
      refine hN11 _ _ ?_
      refine gT [box b5 _, box b6 _, box b7 _, rowl _ _ _ _ _ _, rowl _ _ _ _ _ _, box b8 _, box b9 _, mapr _ _ _ _, box b10 _] rfl ?_
      refine gfrom [(5, .pointer _), (8, .pointer _), (9, .pointer _), (10, .pointer _)] ⟨rfl, rfl, rfl, rfl, trivial⟩ fun σ => ?_
      refine gseq fun N12 hN12 => ?_
      refine greg ?_
      refine gop_alloc (cs := #[.nilFunc]) Tryd.zeroValue67 rfl rfl (fun b11 hb11 => ?_)
      refine gops_nil ?_
      refine hN12 _ _ ?_
      refine gT [box b5 _, box b6 _, box b7 _, rowl _ _ _ _ _ _, rowl _ _ _ _ _ _, box b8 _, box b9 _, mapr _ _ _ _, box b10 _, box b11 _] rfl ?_
      refine gfrom [(5, .pointer _), (8, .pointer _), (9, .pointer _), (10, .pointer _), (11, .pointer _)] ⟨rfl, rfl, rfl, rfl, rfl, trivial⟩ fun σ => ?_
      refine gseq fun N13 hN13 => ?_
      refine greg ?_
      refine gop (y_makeFunc (vs := [.pointer (some ⟨b10, 0, none⟩), .pointer (some ⟨b8, 0, none⟩), .pointer (some ⟨b9, 0, none⟩), .pointer (some ⟨b11, 0, none⟩)]) rfl) rfl rfl rfl ?_
      refine gop_store 9 (v := .func (.func 45) #[] #[.pointer (some ⟨b10, 0, none⟩), .pointer (some ⟨b8, 0, none⟩), .pointer (some ⟨b9, 0, none⟩), .pointer (some ⟨b11, 0, none⟩)]) (cs' := #[_]) rfl rfl Tryd.sizeOf67 rfl rfl rfl rfl (Nat.le_of_ble_eq_true rfl) rfl rfl ?_
      refine gops_nil ?_
      refine hN13 _ _ ?_
      refine gT [box b5 _, box b6 _, box b7 _, rowl _ _ _ _ _ _, rowl _ _ _ _ _ _, box b8 _, box b9 _, mapr _ _ _ _, box b10 _, box b11 _] rfl ?_
      refine gfrom [(5, .pointer _), (11, .pointer _)] ⟨rfl, rfl, trivial⟩ fun σ => ?_
      refine gseq fun N14 hN14 => ?_
      refine greg ?_
      refine gop (y_load Tryd.isAgg67 rfl (cell_box 9 rfl rfl)) rfl rfl rfl ?_
      refine gop_does1 7 (fun v r G => ∃ l1, v = .bool (ovAt (cutS a) (cutS b) 0 0) ∧ r = mapr ek2 Value.bool b30 l1 ∧ G = []) (e_callv (vs := [.int _ _, .int _ _]) (cs := [.pointer (some ⟨b10, 0, none⟩), .pointer (some ⟨b8, 0, none⟩), .pointer (some ⟨b9, 0, none⟩), .pointer (some ⟨b11, 0, none⟩)]) rfl Tryd.func45 rfl (by kernel_rfl) rfl) rfl (fun w fr1 hfr hM => (over1_any (cutS a) (cutS b) _ _ _ _ b30 b10 b8 b9 b11 (fun _ h => cutS_size h ha60) (fun _ h => cutS_size h hb60) (by omega) (by omega) _ _ 0 0 w [] fr1 (fun w1 ho => ⟨box_cell (hfr 8 _ rfl (by decide) w1 ho) rfl, box_cell (hfr 5 _ rfl (by decide) w1 ho) rfl, box_cell (hfr 6 _ rfl (by decide) w1 ho) rfl, box_cell (hfr 9 _ rfl (by decide) w1 ho) rfl, (row_rdl (f := strCells) (fun _ => rfl) (hfr 3 _ rfl (by decide) w1 ho)).mono (Nat.zero_le _), (row_rdl (f := strCells) (fun _ => rfl) (hfr 4 _ rfl (by decide) w1 ho)).mono (Nat.zero_le _)⟩) rfl (Nat.zero_le _) (Nat.zero_le _) (memo_nil _) hM).mono fun _ _ ⟨he, l1, h1, h2⟩ => ⟨_, _, [], he, ⟨l1, rfl, rfl, rfl⟩, h2⟩) rfl rfl rfl ?_
      rintro _ _ _ ⟨l1, rfl, rfl, rfl⟩
      refine gop (y_build (vs := []) (cells := #[.int .i64 0, .int .i64 0]) rfl bd23_) rfl rfl rfl ?_
      refine gop (y_assign (v := .bool _) rfl) rfl rfl rfl ?_
      refine gop_store 0 (v := .agg #[_, _]) (cs' := #[_, _]) rfl rfl Tryd.sizeOf23 rfl rfl rfl rfl (Nat.le_of_ble_eq_true rfl) rfl rfl ?_
      refine gops_nil ?_
      refine hN14 _ _ ?_
      refine gT [box b5 _, box b6 _, box b7 _, rowl _ _ _ _ _ _, rowl _ _ _ _ _ _, box b8 _, box b9 _, mapr _ _ _ _, box b10 _, box b11 _] rfl ?_
      refine gfrom [(4, .bool _), (5, .pointer _)] ⟨rfl, rfl, trivial⟩ fun σ => ?_
      refine gret fun w1 hM => ?_
      refine ⟨_, res2 rfl (rt (v := .bool _) rfl) (rc 0 (cs := [_, _]) hM rfl rfl Tryd.isAgg23 Tryd.sizeOf23 rfl), ?_⟩
      exact ⟨by rw [overV, overF, if_pos ⟨hc16, hc22⟩, if_neg (fun h => h hc16), if_neg (fun h => h hc22)]; rfl, hM.low⟩
end Go.Proofs.YtijpaljdclhehaaDoor
namespace Go.Proofs
open Go.Shelf
def Tryd.lays156_ren : Go.Shelf.Ren := ⟨fun | 156 => 63 | 165 => 80 | 166 => 81 | 169 => 82 | 240 => 100 | 241 => 101 | 276 => 112 | 277 => 113 | n => n, fun | 31 => 37 | 9 => 9 | 3 => 3 | 4 => 4 | 0 => 0 | 20 => 20 | 72 => 103 | 76 => 107 | 70 => 101 | 37 => 71 | 75 => 106 | 127 => 124 | 164 => 131 | 5 => 5 | 80 => 109 | n => n, fun | n => n⟩
theorem Tryd.lays156 : Go.Proofs.Lays.n156 Tryd.prog Tryd.lays156_ren := {
  mixed := by kernel_rfl
  f156 := Tryd.func63.trans (congrArg some (by kernel_rfl))
  f165 := Tryd.func80.trans (congrArg some (by kernel_rfl))
  f166 := Tryd.func81.trans (congrArg some (by kernel_rfl))
  f169 := Tryd.func82.trans (congrArg some (by kernel_rfl))
  f240 := Tryd.func100.trans (congrArg some (by kernel_rfl))
  f241 := Tryd.func101.trans (congrArg some (by kernel_rfl))
  f276 := Tryd.func112.trans (congrArg some (by kernel_rfl))
  f277 := Tryd.func113.trans (congrArg some (by kernel_rfl))
  t0 := Tryd.underlying0
  a0 := Tryd.isAgg0
  z0 := Tryd.sizeOf0
  v0 := Tryd.zeroValue0
  t3 := Tryd.underlying3
  a3 := Tryd.isAgg3
  z3 := Tryd.sizeOf3
  v3 := Tryd.zeroValue3
  t4 := Tryd.underlying4
  a4 := Tryd.isAgg4
  z4 := Tryd.sizeOf4
  v4 := Tryd.zeroValue4
  t9 := Tryd.underlying9
  a9 := Tryd.isAgg9
  z9 := Tryd.sizeOf9
  v9 := Tryd.zeroValue9
  t20 := Tryd.underlying20
  a20 := Tryd.isAgg20
  z20 := Tryd.sizeOf20
  v20 := Tryd.zeroValue20
  t31 := Tryd.underlying37
  a31 := Tryd.isAgg37
  z31 := Tryd.sizeOf37
  v31 := Tryd.zeroValue37
  t37 := Tryd.underlying71
  a37 := Tryd.isAgg71
  z37 := Tryd.sizeOf71
  v37 := Tryd.zeroValue71
  t70 := Tryd.underlying101
  a70 := Tryd.isAgg101
  z70 := Tryd.sizeOf101
  v70 := Tryd.zeroValue101
  t72 := Tryd.underlying103
  a72 := Tryd.isAgg103
  z72 := Tryd.sizeOf103
  v72 := Tryd.zeroValue103
  t75 := Tryd.underlying106
  a75 := Tryd.isAgg106
  z75 := Tryd.sizeOf106
  v75 := Tryd.zeroValue106
  t76 := Tryd.underlying107
  a76 := Tryd.isAgg107
  z76 := Tryd.sizeOf107
  v76 := Tryd.zeroValue107
  t127 := Tryd.underlying124
  a127 := Tryd.isAgg124
  z127 := Tryd.sizeOf124
  v127 := Tryd.zeroValue124
  t164 := Tryd.underlying131
  a164 := Tryd.isAgg131
  z164 := Tryd.sizeOf131
  v164 := Tryd.zeroValue131 }
theorem Tryd.Builder_Extra_156 : Builder.Extra Tryd.prog Tryd.lays156_ren := {
  sizeBuilder := by kernel_rfl
  liesBuilder := by kernel_rfl
  t5 := Tryd.underlying5
  a5 := Tryd.isAgg5
  z5 := Tryd.sizeOf5
  v5 := Tryd.zeroValue5
  infoByte := by kernel_rfl
  cellsByte := by kernel_rfl
  sizeByte := by kernel_rfl
  neB5 := by decide }
open Go.RowKit in

theorem Tryd.strings_Join (bk o c : Nat) (xs : List ByteArray) (sep : ByteArray) (w : World) (hcells : ∀ (j : Nat) x, xs[j]? = some x → w.cell? ⟨bk, o + j, none⟩ = some (.string x)) (hbk : bk < w.heap.size) (hN : xs.length ≤ 140737488355328) (hcap : xs.length ≤ c) (hlen : (Lib.join (xs.map (·.data.toList)) sep.data.toList).length ≤ 140737488355328) :
    Calls Tryd.prog 63 #[.slice (some ⟨bk, o, none⟩) xs.length c, .string sep] w fun e w' => e = .returned (.string ⟨(Lib.join (xs.map (·.data.toList)) sep.data.toList).toArray⟩) ∧ Below w.heap.size w w' := Any.strings_Join Tryd.lays156 Tryd.Builder_Extra_156 bk o c xs sep w hcells hbk hN hcap hlen
def Tryd.lays150_ren : Go.Shelf.Ren := ⟨fun | 150 => 62 | 153 => 79 | 152 => 96 | 226 => 97 | 227 => 98 | 228 => 99 | 137 => 58 | 119 => 109 | 224 => 110 | 225 => 111 | 217 => 78 | 266 => 95 | n => n, fun | 9 => 9 | 4 => 4 | 3 => 3 | 5 => 5 | 21 => 21 | 117 => 122 | 116 => 121 | 0 => 0 | 46 => 129 | 124 => 130 | n => n, fun | n => n⟩
theorem Tryd.lays150 : Go.Proofs.Lays.n150 Tryd.prog Tryd.lays150_ren := {
  mixed := by kernel_rfl
  f119 := Tryd.func109.trans (congrArg some (by kernel_rfl))
  f137 := Tryd.func58.trans (congrArg some (by kernel_rfl))
  f150 := Tryd.func62.trans (congrArg some (by kernel_rfl))
  f152 := Tryd.func96.trans (congrArg some (by kernel_rfl))
  f153 := Tryd.func79.trans (congrArg some (by kernel_rfl))
  f217 := Tryd.func78.trans (congrArg some (by kernel_rfl))
  f224 := Tryd.func110.trans (congrArg some (by kernel_rfl))
  f225 := Tryd.func111.trans (congrArg some (by kernel_rfl))
  f226 := Tryd.func97.trans (congrArg some (by kernel_rfl))
  f227 := Tryd.func98.trans (congrArg some (by kernel_rfl))
  f228 := Tryd.func99.trans (congrArg some (by kernel_rfl))
  f266 := Tryd.func95.trans (congrArg some (by kernel_rfl))
  t0 := Tryd.underlying0
  a0 := Tryd.isAgg0
  z0 := Tryd.sizeOf0
  v0 := Tryd.zeroValue0
  t3 := Tryd.underlying3
  a3 := Tryd.isAgg3
  z3 := Tryd.sizeOf3
  v3 := Tryd.zeroValue3
  t4 := Tryd.underlying4
  a4 := Tryd.isAgg4
  z4 := Tryd.sizeOf4
  v4 := Tryd.zeroValue4
  t5 := Tryd.underlying5
  a5 := Tryd.isAgg5
  z5 := Tryd.sizeOf5
  v5 := Tryd.zeroValue5
  t9 := Tryd.underlying9
  a9 := Tryd.isAgg9
  z9 := Tryd.sizeOf9
  v9 := Tryd.zeroValue9
  t21 := Tryd.underlying21
  a21 := Tryd.isAgg21
  z21 := Tryd.sizeOf21
  v21 := Tryd.zeroValue21
  t46 := Tryd.underlying129
  a46 := Tryd.isAgg129
  z46 := Tryd.sizeOf129
  v46 := Tryd.zeroValue129
  t116 := Tryd.underlying121
  a116 := Tryd.isAgg121
  z116 := Tryd.sizeOf121
  t117 := Tryd.underlying122
  a117 := Tryd.isAgg122
  z117 := Tryd.sizeOf122
  v117 := Tryd.zeroValue122
  t124 := Tryd.underlying130
  a124 := Tryd.isAgg130
  z124 := Tryd.sizeOf130
  v124 := Tryd.zeroValue130 }
open Go.RowKit Go.Lib in
theorem Tryd.strings_ContainsAny_laid (s chars : ByteArray) (w : World) (hs : s.size < 4294967281) (hcs : chars.size < 4294967281) (has : ∀ (j : Nat) b, s.data.toList[j]? = some b → b.toNat < 128) (hac : ∀ (j : Nat) b, chars.data.toList[j]? = some b → b.toNat < 128) :
    Calls Tryd.prog 62 #[.string s, .string chars] w fun e w' => e = .returned (.bool (Lib.containsAny s.data.toList chars.data.toList)) ∧ Below w.heap.size w w' := Any.strings_ContainsAny_laid Tryd.lays150 (by kernel_rfl) s chars w hs hcs has hac
end Go.Proofs
namespace Go.Proofs.YtijpaljdclhehaaDoor
open Go.RowKit Go.Cf
set_option maxRecDepth 10000
set_option maxHeartbeats 1000000 in
theorem wildP_any (w : World) (s : ByteArray) (hs : s.size ≤ 60) (ha : asc s) : Calls Tryd.prog 61 #[.string s] w fun e w' => e = .returned (.bool (wildP s)) ∧ Below w.heap.size w w' := by
  refine gcalls Tryd.func61 rfl Tryd.ntmps61 (Nat.le_of_ble_eq_true rfl) ?_
  refine gfrom [(0, .string _)] ⟨rfl, trivial⟩ fun σ => ?_
  refine gseq fun N1 hN1 => ?_
  refine greg ?_
  refine gop (y_assign (v := .bool _) rfl) rfl rfl rfl ?_
  refine gops_nil ?_
  refine hN1 _ _ ?_
  refine gfrom [(0, .string _)] ⟨rfl, trivial⟩ fun σ => ?_
  refine gseq fun N2 hN2 => ?_
  refine greg ?_
  refine gop (y_move (v := .string _) rfl) rfl rfl rfl ?_
  refine gop_pure (e_call (vs := [.string _, _]) Tryd.func62 rfl (by kernel_rfl) rfl) (fun w hM => Tryd.strings_ContainsAny_laid s ⟨#[42, 63]⟩ w (by omega) (by decide) ha (fun j b hb => by have h1 : b ∈ [(42 : UInt8), 63] := List.mem_of_getElem? hb; simp at h1; rcases h1 with rfl | rfl <;> decide)) rfl rfl rfl ?_
  refine gop (y_assign (v := .bool _) rfl) rfl rfl rfl ?_
  refine gops_nil ?_
  refine hN2 _ _ ?_
  refine gfrom [(2, .bool _)] ⟨rfl, trivial⟩ fun σ => ?_
  refine gret fun w1 hM => ?_
  refine ⟨_, res1 rfl (rt (v := .bool _) rfl), ?_⟩
  exact ⟨rfl, hM.low⟩
set_option maxHeartbeats 1000000 in
theorem indexFunc_any (w : World) (l : List ByteArray) (A : Option Addr) (c : Nat) (hl : Rdl w 0 1 strCells A l) (hn : l.length ≤ 4000001) (hs : ∀ x ∈ l, x.size ≤ 60) (ha : ∀ x ∈ l, asc x) : Calls Tryd.prog 60 #[.slice A l.length c, .func (.func 61) #[] #[]] w fun e w' => e = .returned (.int .i64 (idxW l)) ∧ Below w.heap.size w w' := by
  refine gcalls Tryd.func60 rfl Tryd.ntmps60 (Nat.le_of_ble_eq_true rfl) ?_
  refine gfrom [(0, .slice _ _ _), (1, .func (.func 61) #[] #[])] ⟨rfl, rfl, trivial⟩ fun σ => ?_
  refine gseq fun N1 hN1 => ?_
  refine greg ?_
  refine gop (y_assign (v := .int _ _) rfl) rfl rfl rfl ?_
  refine gops_nil ?_
  refine hN1 _ _ ?_
  refine gfrom [(0, .slice _ _ _), (1, .func (.func 61) #[] #[])] ⟨rfl, rfl, trivial⟩ fun σ => ?_
  refine gseq fun N2 hN2 => ?_
  refine gseq fun N3 hN3 => ?_
  refine greg ?_
  refine gop (y_move (v := .slice _ _ _) rfl) rfl rfl rfl ?_
  refine gop (y_len Tryd.underlying37 rfl) rfl rfl rfl ?_
  refine gop (y_move (v := .int _ _) rfl) rfl rfl rfl ?_
  refine gops_nil ?_
  refine hN3 _ _ ?_
  refine gfrom [(0, .slice _ _ _), (1, .func (.func 61) #[] #[]), (7, .int _ _), (8, .int _ _)] ⟨rfl, rfl, rfl, rfl, trivial⟩ fun σ => ?_
  refine gblock ?_
  refine gfrom2 [(8, .int _ _)] [(0, .slice _ _ _), (1, .func (.func 61) #[] #[]), (7, .int _ _)] ⟨rfl, trivial⟩ ⟨rfl, rfl, rfl, trivial⟩ fun σ => ?_
  refine gloop2 (G := Nat) (fun k => k ≤ l.length ∧ ∀ j (h : j < l.length), j < k → wildP l[j] = false) (fun k => l.length - k) (fun k => [(8, .int .i64 (k : Int))]) (fun k => []) (0) ?h0 ⟨rfl, trivial⟩ ⟨rfl, rfl, rfl, trivial⟩ rfl ?round
  case h0 => exact ⟨Nat.zero_le _, fun _ _ h => absurd h (by omega)⟩
  case round =>
    intro k hφ σ
    obtain ⟨hk, hz⟩ := hφ
    refine gseq fun N4 hN4 => ?_
    refine greg ?_
    refine gop (y_lss rfl rfl) rfl rfl rfl ?_
    refine gops_nil ?_
    refine hN4 _ _ ?_
    refine gfrom [(0, .slice _ _ _), (1, .func (.func 61) #[] #[]), (7, .int _ _), (8, .int _ _), (9, .bool _)] ⟨rfl, rfl, rfl, rfl, rfl, trivial⟩ fun σ => ?_
    refine gseq fun N5 hN5 => ?_
    refine gcond (b := _) rfl (fun hc9 => ?_) (fun hc9 => ?_)
    · 
      replace hc9 := of_decide_eq_true hc9
      have hk1 : k < l.length := by omega
      obtain ⟨ad1, rfl, -, hca⟩ := hl.at_ hk1
      refine gskip ?_
      refine hN5 _ _ ?_
      refine gfrom [(0, .slice _ _ _), (1, .func (.func 61) #[] #[]), (7, .int _ _), (8, .int _ _)] ⟨rfl, rfl, rfl, rfl, trivial⟩ fun σ => ?_
      refine gseq fun N6 hN6 => ?_
      refine gblock ?_
      refine gseq fun N7 hN7 => ?_
      refine greg ?_
      refine gop (y_move (v := .int _ _) rfl) rfl rfl rfl ?_
      refine gop (y_assign (v := .int _ _) rfl) rfl rfl rfl ?_
      refine gops_nil ?_
      refine hN7 _ _ ?_
      refine gfrom [(0, .slice _ _ _), (1, .func (.func 61) #[] #[]), (5, .int _ _), (7, .int _ _), (8, .int _ _)] ⟨rfl, rfl, rfl, rfl, rfl, trivial⟩ fun σ => ?_
      refine gseq fun N8 hN8 => ?_
      refine greg ?_
      refine gop (y_move (v := .func (.func 61) #[] #[]) rfl) rfl rfl rfl ?_
      refine gop (y_move (v := .slice _ _ _) rfl) rfl rfl rfl ?_
      refine gop (y_move (v := .int _ _) rfl) rfl rfl rfl ?_
      refine gop (y_indexAddr (m := k) Tryd.underlying37 Tryd.sizeOf9 rfl rfl (by omega) (by omega) (by omega)) rfl rfl rfl ?_
      refine gop (y_load Tryd.isAgg9 rfl (cell_base (hca 0 _ rfl))) rfl rfl rfl ?_
      refine gop_pure (e_callv (vs := [.string _]) (cs := []) rfl Tryd.func61 rfl (by kernel_rfl) rfl) (fun w hM => wildP_any w _ (hs _ (List.getElem_mem hk1)) (ha _ (List.getElem_mem hk1))) rfl rfl rfl ?_
      refine gops_nil ?_
      refine hN8 _ _ ?_
      refine gfrom [(0, .slice _ _ _), (1, .func (.func 61) #[] #[]), (5, .int _ _), (7, .int _ _), (8, .int _ _), (16, .bool _)] ⟨rfl, rfl, rfl, rfl, rfl, rfl, trivial⟩ fun σ => ?_
      refine gcond (b := _) rfl (fun hc16 => ?_) (fun hc16 => ?_)
      · 
        refine gseq fun N9 hN9 => ?_
        refine greg ?_
        refine gop (y_move (v := .int _ _) rfl) rfl rfl rfl ?_
        refine gop (y_assign (v := .int _ _) rfl) rfl rfl rfl ?_
        refine gops_nil ?_
        refine hN9 _ _ ?_
        refine gfrom [(4, .int _ _)] ⟨rfl, trivial⟩ fun σ => ?_
        refine gret fun w1 hM => ?_
        refine ⟨_, res1 rfl (rt (v := .int _ _) rfl), ?_⟩
        exact ⟨by rw [idx_hitW hk1 hz hc16], hM.low⟩
      · 
        refine gskip ?_
        refine hN6 _ _ ?_
        refine gfrom [(0, .slice _ _ _), (1, .func (.func 61) #[] #[]), (7, .int _ _), (8, .int _ _)] ⟨rfl, rfl, rfl, rfl, trivial⟩ fun σ => ?_
        refine greg ?_
        refine gop (y_add rfl rfl ⟨by omega, by omega⟩) rfl rfl rfl ?_
        refine gop (y_move (v := .int _ _) rfl) rfl rfl rfl ?_
        refine gops_nil ?_
        refine gnext2 (k + 1) (by omega) (⟨by omega, fun j h hj => by rcases Nat.lt_succ_iff_lt_or_eq.1 hj with h1 | rfl; exact hz j h h1; exact hc16⟩) ⟨rfl, trivial⟩ ⟨rfl, rfl, rfl, trivial⟩ ⟨_, rfl⟩
    · 
      replace hc9 := of_decide_eq_false hc9
      have hI := idx_noneW (l := l) (fun j hj => hz j hj (by omega))
      refine gexit ?_
      refine hN2 _ _ ?_
      refine gfrom [] trivial fun σ => ?_
      refine gseq fun N10 hN10 => ?_
      refine greg ?_
      refine gop (y_assign (v := .int _ _) rfl) rfl rfl rfl ?_
      refine gops_nil ?_
      refine hN10 _ _ ?_
      refine gfrom [(4, .int _ _)] ⟨rfl, trivial⟩ fun σ => ?_
      refine gret fun w1 hM => ?_
      refine ⟨_, res1 rfl (rt (v := .int _ _) rfl), ?_⟩
      exact ⟨by rw [hI], hM.low⟩
set_option maxHeartbeats 2000000 in
theorem fixed_any (w : World) (s : ByteArray) : Calls Tryd.prog 37 #[.string s] w fun e w' => e = .returned (.tuple #[.string (fixedV s), fv (patFault s)]) ∧ Below w.heap.size w w' := by
  have hc1 := cutS_len s
  have hfl := fix_le (cutS s)
  refine gcalls Tryd.func37 rfl Tryd.ntmps37 (Nat.le_of_ble_eq_true rfl) ?_
  refine gfrom [(0, .string _)] ⟨rfl, trivial⟩ fun σ => ?_
  refine gseq fun N1 hN1 => ?_
  refine greg ?_
  refine gop (y_assign (v := .string _) rfl) rfl rfl rfl ?_
  refine gop_alloc (cs := #[.int .i64 0, .int .i64 0]) Tryd.zeroValue23 rfl rfl (fun b3 hb3 => ?_)
  refine gops_nil ?_
  refine hN1 _ _ ?_
  refine gT [box b3 _] rfl ?_
  refine gfrom [(0, .string _), (3, .pointer _)] ⟨rfl, rfl, trivial⟩ fun σ => ?_
  refine gseq fun N2 hN2 => ?_
  refine gseq fun N3 hN3 => ?_
  refine greg ?_
  refine gop (y_move (v := .string _) rfl) rfl rfl rfl ?_
  refine gop_pure (e_call (vs := [.string _]) Tryd.func38 rfl (by kernel_rfl) rfl) (fun w hM => validate_any w _) rfl rfl rfl ?_
  refine gop_alloc (cs := #[.int .i64 0, .int .i64 0]) Tryd.zeroValue23 rfl rfl (fun b4 hb4 => ?_)
  refine gop_store 1 (v := .agg #[_, _]) (cs' := #[_, _]) rfl rfl Tryd.sizeOf23 rfl rfl rfl rfl (Nat.le_of_ble_eq_true rfl) rfl rfl ?_
  refine gops_nil ?_
  refine hN3 _ _ ?_
  refine gT [box b3 _, box b4 _] rfl ?_
  refine gfrom [(0, .string _), (3, .pointer _), (4, .pointer _)] ⟨rfl, rfl, rfl, trivial⟩ fun σ => ?_
  refine gseq fun N4 hN4 => ?_
  refine greg ?_
  refine gop (y_loads (cs := [_, _]) Tryd.isAgg23 Tryd.sizeOf23 rfl rfl (cells_box 1 rfl)) rfl rfl rfl ?_
  refine gop (y_build (vs := []) (cells := #[.int .i64 0, .int .i64 0]) rfl bd23_) rfl rfl rfl ?_
  refine gop (y_bin (vx := .agg #[_, _]) (vy := .agg #[_, _]) rfl rfl (fun w => eg23 _ _ _ _ _ w) (fun w => ne23 _ _ _ _ w)) rfl rfl rfl ?_
  refine gops_nil ?_
  refine hN4 _ _ ?_
  refine gfrom [(0, .string _), (3, .pointer _), (4, .pointer _), (11, .bool _)] ⟨rfl, rfl, rfl, rfl, trivial⟩ fun σ => ?_
  refine gcond (b := _) rfl (fun hc11 => ?_) (fun hc11 => ?_)
  · 
    replace hc11 := fault_ne.1 hc11
    refine gseq fun N5 hN5 => ?_
    refine greg_e1 [] [(0, room b3 23 2)] (by kernel_rfl) ?_
    refine ge_take 0 (TK := [room b3 23 2, box b4 _]) rfl (by kernel_rfl) (by kernel_rfl) (by kernel_rfl) #[false, true, false] (by kernel_rfl) rfl (y_loads (cs := [_, _]) Tryd.isAgg23 Tryd.sizeOf23 rfl rfl (cells_box 1 rfl)) rfl rfl rfl (weak_room 0 rfl rfl) (listed' := #[true, false, false]) rfl ?_
    refine ge_take 1 (TK := [room b3 23 2, box b4 _]) rfl (by kernel_rfl) (by kernel_rfl) (by kernel_rfl) #[true, false, false] (by kernel_rfl) rfl (y_assign (v := .string _) rfl) rfl rfl rfl (weak_room 0 rfl rfl) (listed' := #[true, true, false]) rfl ?_
    refine ge_one 2 (k' := 0) (listed' := #[true, true, true]) (by kernel_rfl) rfl rfl rfl ?_
    refine gop_store 0 (v := .agg #[_, _]) (cs' := #[_, _]) rfl rfl Tryd.sizeOf23 rfl rfl rfl rfl (Nat.le_of_ble_eq_true rfl) rfl rfl ?_
    refine gops_nil ?_
    refine ge_fin (TK := [room b3 23 2, box b4 _]) rfl (weak_room 0 rfl rfl) ?_
    refine ge_done (by kernel_rfl) ?_
    refine hN5 _ _ ?_
    refine gT [box b3 _, box b4 _] rfl ?_
    refine gfrom [(2, .string _), (3, .pointer _)] ⟨rfl, rfl, trivial⟩ fun σ => ?_
    refine gret fun w1 hM => ?_
    refine ⟨_, res2 rfl (rt (v := .string _) rfl) (rc 0 (cs := [_, _]) hM rfl rfl Tryd.isAgg23 Tryd.sizeOf23 rfl), ?_⟩
    exact ⟨by rw [fixedV, if_neg hc11], hM.low⟩
  · 
    replace hc11 := fault_eq.1 hc11
    have hs60 := patFault_size hc11
    refine gskip ?_
    refine hN2 _ _ ?_
    refine gfrom [(0, .string _), (3, .pointer _)] ⟨rfl, rfl, trivial⟩ fun σ => ?_
    refine gseq fun N6 hN6 => ?_
    refine greg ?_
    refine gop (y_move (v := .string _) rfl) rfl rfl rfl ?_
    refine gop_got (fun v T' => ∃ lo, w.heap.size ≤ lo ∧ T' = [rowl strCells lo 9 1 v (cutS s)]) (e_call (vs := [.string _, _]) Tryd.func44 rfl (by kernel_rfl) rfl) (fun w hM => (split_any w s (by omega)).mono fun _ _ ⟨v, T1, h1, h2, h3⟩ => ⟨v, T1, h1, ⟨_, hM.low.size, h2⟩, h3⟩) rfl rfl rfl ?_
    rintro v14 _ ⟨lo14, hlo14, rfl⟩
    refine gops_fact (fun w hM => row_form (hM.ok _ (List.mem_of_getElem? (i := 2) rfl))) ?_
    rintro ⟨A14, c14, rfl, hc14, hm14, hn14⟩
    refine gops_fact (fun w hM => own_some (hM.own 2 rfl) (cutS_pos s)) ?_
    rintro ⟨rg2, cg2, hvg, -, -⟩
    simp only [Value.slice.injEq] at hvg
    obtain ⟨rfl, -, rfl⟩ := hvg
    refine gop (y_assign (v := .slice (some ⟨rg2, 0, none⟩) _ _) rfl) rfl rfl rfl ?_
    refine gops_nil ?_
    refine hN6 _ _ ?_
    refine gT [box b3 _, box b4 _, rowl _ _ _ _ _ _] rfl ?_
    refine gfrom [(3, .pointer _), (5, .slice (some ⟨rg2, 0, none⟩) _ _)] ⟨rfl, rfl, trivial⟩ fun σ => ?_
    refine gseq fun N7 hN7 => ?_
    refine gfrom [(3, .pointer _), (5, .slice (some ⟨rg2, 0, none⟩) _ _)] ⟨rfl, rfl, trivial⟩ fun σ => ?_
    refine gcut3 (Lf := [(3, .pointer _)]) (G := Unit) (fun g => True) (fun g => [(5, .slice (some ⟨rg2, 0, none⟩) (fixL (cutS s)).length c14)]) (fun g => []) ⟨rfl, trivial⟩ ?_ ?_
    ·
      refine gseq fun N8 hN8 => ?_
      refine greg ?_
      refine gop (y_move (v := .slice (some ⟨rg2, 0, none⟩) _ _) rfl) rfl rfl rfl ?_
      refine gop_pure (e_call (vs := [.slice (some ⟨rg2, 0, none⟩) _ _, _]) Tryd.func60 rfl (by kernel_rfl) rfl) (fun w hM => indexFunc_any w (cutS s) _ _ ((row_rdl (f := strCells) (fun _ => rfl) (hM.ok _ (List.mem_of_getElem? (i := 2) rfl))).mono (Nat.zero_le _)) (by omega) (fun _ h => cutS_size h hs60) (fun _ h => part_asc (pat_parts hc11 _ h))) rfl rfl rfl ?_
      refine gop (y_assign (v := .int _ _) rfl) rfl rfl rfl ?_
      refine gops_nil ?_
      refine hN8 _ _ ?_
      refine gfrom [(3, .pointer _), (5, .slice (some ⟨rg2, 0, none⟩) _ _), (6, .int _ _)] ⟨rfl, rfl, rfl, trivial⟩ fun σ => ?_
      refine gseq fun N9 hN9 => ?_
      refine greg ?_
      refine gop (y_move (v := .int _ _) rfl) rfl rfl rfl ?_
      refine gop (y_geq rfl rfl) rfl rfl rfl ?_
      refine gops_nil ?_
      refine hN9 _ _ ?_
      refine gfrom [(3, .pointer _), (5, .slice (some ⟨rg2, 0, none⟩) _ _), (6, .int _ _), (18, .bool _)] ⟨rfl, rfl, rfl, rfl, trivial⟩ fun σ => ?_
      refine gcond (b := _) rfl (fun hc18 => ?_) (fun hc18 => ?_)
      · 
        replace hc18 := of_decide_eq_true hc18
        refine greg ?_
        refine gop (y_move (v := .slice (some ⟨rg2, 0, none⟩) _ _) rfl) rfl rfl rfl ?_
        refine gop (y_move (v := .int _ _) rfl) rfl rfl rfl ?_
        refine gop (y_trunc (m := (idxW (cutS s)).toNat) Tryd.underlying37 Tryd.sizeOf9 rfl rfl (by omega) (by have h1 := (idx_take (l := cutS s) (by omega)).2; omega) rfl) rfl rfl rfl ?_
        refine gop (y_assign (v := .slice _ _ _) rfl) rfl rfl rfl ?_
        refine gops_nil ?_
        refine gcut3_end (()) (trivial) ⟨by show Value.slice _ _ _ = _; rw [fix_len (by omega)], trivial⟩ ⟨rfl, trivial⟩ ⟨_, rfl⟩
      · 
        replace hc18 := of_decide_eq_false hc18
        refine gskip ?_
        refine gcut3_end (()) (trivial) ⟨by show Value.slice _ _ _ = _; rw [idx_nota (by omega)], trivial⟩ ⟨rfl, trivial⟩ ⟨_, rfl⟩
    ·
      intro g hcut σ
      refine hN7 _ _ ?_
      refine gseq fun N10 hN10 => ?_
      refine greg ?_
      refine gop (y_move (v := .slice _ _ _) rfl) rfl rfl rfl ?_
      refine gop_pure (e_call (vs := [.slice _ _ _, _]) Tryd.func63 rfl (by kernel_rfl) rfl) (fun w hM => Tryd.strings_Join rg2 0 c14 (fixL (cutS s)) ⟨#[47]⟩ w (fun j x hx => row_str (hM.ok _ (List.mem_of_getElem? (i := 2) rfl)) rfl (fix_get hx)) (hM.lt _ (List.mem_of_getElem? (i := 2) rfl) rg2 rfl) (by omega) (by omega) (by have h1 := join_take_len s (fixL (cutS s)).length; rw [← fix_take] at h1; exact Nat.le_trans h1 (by omega))) rfl rfl rfl ?_
      refine gop (y_build (vs := []) (cells := #[.int .i64 0, .int .i64 0]) rfl bd23_) rfl rfl rfl ?_
      refine gop (y_assign (v := .string _) rfl) rfl rfl rfl ?_
      refine gop_store 0 (v := .agg #[_, _]) (cs' := #[_, _]) rfl rfl Tryd.sizeOf23 rfl rfl rfl rfl (Nat.le_of_ble_eq_true rfl) rfl rfl ?_
      refine gops_nil ?_
      refine hN10 _ _ ?_
      refine gT [box b3 _, box b4 _, rowl _ _ _ _ _ _] rfl ?_
      refine gfrom [(2, .string _), (3, .pointer _)] ⟨rfl, rfl, trivial⟩ fun σ => ?_
      refine gret fun w1 hM => ?_
      refine ⟨_, res2 rfl (rt (v := .string _) rfl) (rc 0 (cs := [_, _]) hM rfl rfl Tryd.isAgg23 Tryd.sizeOf23 rfl), ?_⟩
      exact ⟨by rw [fixedV, if_pos hc11, hc11]; rfl, hM.low⟩
end Go.Proofs.YtijpaljdclhehaaDoor
namespace Go.Proofs.YtijpaljdclhehaaDoor
open Go.RowKit Go.Cf
set_option maxRecDepth 10000
set_option maxHeartbeats 2000000 in
theorem patternCode_any (w : World) (s : ByteArray) : Calls Tryd.prog 36 #[.string s] w fun e w' => e = .returned (.int .i64 (patCode s : Nat)) ∧ Below w.heap.size w w' := by
  have hcl := cutS_len s
  refine gcalls Tryd.func36 rfl Tryd.ntmps36 (Nat.le_of_ble_eq_true rfl) ?_
  refine gfrom [(0, .string _)] ⟨rfl, trivial⟩ fun σ => ?_
  refine gseq fun N1 hN1 => ?_
  refine greg ?_
  refine gop (y_assign (v := .int _ _) rfl) rfl rfl rfl ?_
  refine gops_nil ?_
  refine hN1 _ _ ?_
  refine gfrom [(0, .string _)] ⟨rfl, trivial⟩ fun σ => ?_
  refine gseq fun N2 hN2 => ?_
  refine gseq fun N3 hN3 => ?_
  refine greg ?_
  refine gop (y_move (v := .string _) rfl) rfl rfl rfl ?_
  refine gop (y_lens Tryd.underlying9 rfl) rfl rfl rfl ?_
  refine gop (y_gtr rfl rfl) rfl rfl rfl ?_
  refine gops_nil ?_
  refine hN3 _ _ ?_
  refine gfrom [(0, .string _), (9, .bool _)] ⟨rfl, rfl, trivial⟩ fun σ => ?_
  refine gcond (b := _) rfl (fun hc9 => ?_) (fun hc9 => ?_)
  · 
    replace hc9 := of_decide_eq_true hc9
    refine gseq fun N4 hN4 => ?_
    refine greg ?_
    refine gop (y_assign (v := .int _ _) rfl) rfl rfl rfl ?_
    refine gops_nil ?_
    refine hN4 _ _ ?_
    refine gfrom [(2, .int _ _)] ⟨rfl, trivial⟩ fun σ => ?_
    refine gret fun w1 hM => ?_
    refine ⟨_, res1 rfl (rt (v := .int _ _) rfl), ?_⟩
    exact ⟨by rw [patCode, if_pos (by omega)]; rfl, hM.low⟩
  · 
    replace hc9 := of_decide_eq_false hc9
    refine gskip ?_
    refine hN2 _ _ ?_
    refine gfrom [(0, .string _)] ⟨rfl, trivial⟩ fun σ => ?_
    refine gseq fun N5 hN5 => ?_
    refine greg ?_
    refine gop (y_move (v := .string _) rfl) rfl rfl rfl ?_
    refine gop_got (fun v T' => ∃ lo, w.heap.size ≤ lo ∧ T' = [rowl strCells lo 9 1 v (cutS s)]) (e_call (vs := [.string _]) Tryd.func47 rfl (by kernel_rfl) rfl) (fun w hM => (cut_any w s (by omega)).mono fun _ _ ⟨v, T1, h1, h2, h3⟩ => ⟨v, T1, h1, ⟨_, hM.low.size, h2⟩, h3⟩) rfl rfl rfl ?_
    rintro v11 _ ⟨lo11, hlo11, rfl⟩
    refine gops_fact (fun w hM => row_form (hM.ok _ (List.mem_of_getElem? (i := 0) rfl))) ?_
    rintro ⟨A11, c11, rfl, hc11, hm11, hn11⟩
    refine gop (y_assign (v := .slice A11 _ c11) rfl) rfl rfl rfl ?_
    refine gops_nil ?_
    refine hN5 _ _ ?_
    refine gT [rowl _ _ _ _ _ _] rfl ?_
    refine gfrom [(3, .slice A11 _ c11)] ⟨rfl, trivial⟩ fun σ => ?_
    refine gseq fun N6 hN6 => ?_
    refine gseq fun N7 hN7 => ?_
    refine greg ?_
    refine gop (y_assign (v := .int _ _) rfl) rfl rfl rfl ?_
    refine gops_nil ?_
    refine hN7 _ _ ?_
    refine gfrom [(3, .slice A11 _ c11), (4, .int _ _)] ⟨rfl, rfl, trivial⟩ fun σ => ?_
    refine gblock ?_
    refine gfrom2 [(4, .int _ _)] [(3, .slice A11 _ c11)] ⟨rfl, trivial⟩ ⟨rfl, trivial⟩ fun σ => ?_
    refine gloop2 (G := Nat) (fun k => k ≤ (cutS s).length ∧ ∀ j (h : j < (cutS s).length), j < k → partCode (cutS s)[j] = 0) (fun k => (cutS s).length - k) (fun k => [(4, .int .i64 (k : Int))]) (fun k => []) (0) ?h0 ⟨rfl, trivial⟩ ⟨rfl, trivial⟩ rfl ?round
    case h0 => exact ⟨Nat.zero_le _, fun _ _ h => absurd h (by omega)⟩
    case round =>
      intro k hφ σ
      obtain ⟨hk, hz⟩ := hφ
      refine gseq fun N8 hN8 => ?_
      refine gseq fun N9 hN9 => ?_
      refine greg ?_
      refine gop (y_move (v := .int _ _) rfl) rfl rfl rfl ?_
      refine gop (y_move (v := .slice A11 _ c11) rfl) rfl rfl rfl ?_
      refine gop (y_len Tryd.underlying37 rfl) rfl rfl rfl ?_
      refine gop (y_lss rfl rfl) rfl rfl rfl ?_
      refine gops_nil ?_
      refine hN9 _ _ ?_
      refine gfrom [(3, .slice A11 _ c11), (4, .int _ _), (15, .bool _)] ⟨rfl, rfl, rfl, trivial⟩ fun σ => ?_
      refine gcond (b := _) rfl (fun hc15 => ?_) (fun hc15 => ?_)
      · 
        replace hc15 := of_decide_eq_true hc15
        have hk1 : k < (cutS s).length := by omega
        have hx60 : (cutS s)[k].size ≤ 60 := cutS_size (List.getElem_mem hk1) (by omega)
        refine g_fact (fun w hM => own_some (hM.own 0 rfl) (by omega)) ?_
        rintro ⟨rg0, cg0, hvg, -, -⟩
        simp only [Value.slice.injEq] at hvg
        obtain ⟨rfl, -, rfl⟩ := hvg
        refine gskip ?_
        refine hN8 _ _ ?_
        refine gfrom [(3, .slice (some ⟨rg0, 0, none⟩) _ _), (4, .int _ _)] ⟨rfl, rfl, trivial⟩ fun σ => ?_
        refine gseq fun N10 hN10 => ?_
        refine gblock ?_
        refine gseq fun N11 hN11 => ?_
        refine greg ?_
        refine gop (y_move (v := .slice (some ⟨rg0, 0, none⟩) _ _) rfl) rfl rfl rfl ?_
        refine gop (y_move (v := .int _ _) rfl) rfl rfl rfl ?_
        refine gop (y_indexAddr Tryd.underlying37 Tryd.sizeOf9 rfl rfl rfl (by omega) (by omega)) rfl rfl rfl ?_
        refine gop (y_load Tryd.isAgg9 rfl (cells_rowl 0 (f := strCells) (l := cutS s) rfl rfl (fun _ => rfl) (List.getElem?_eq_getElem hk1) 0 _ rfl)) rfl rfl rfl ?_
        refine gop (y_assign (v := .string _) rfl) rfl rfl rfl ?_
        refine gops_nil ?_
        refine hN11 _ _ ?_
        refine gfrom [(3, .slice (some ⟨rg0, 0, none⟩) _ _), (4, .int _ _), (5, .string _)] ⟨rfl, rfl, rfl, trivial⟩ fun σ => ?_
        refine gseq fun N12 hN12 => ?_
        refine gfrom [(3, .slice (some ⟨rg0, 0, none⟩) _ _), (4, .int _ _), (5, .string _)] ⟨rfl, rfl, rfl, trivial⟩ fun σ => ?_
        refine gcut3 (Lf := [(3, .slice (some ⟨rg0, 0, none⟩) _ _), (4, .int _ _), (5, .string _)]) (G := Unit) (fun g => dotty (cutS s)[k] = false) (fun g => []) (fun g => []) ⟨rfl, rfl, rfl, trivial⟩ ?_ ?_
        ·
          refine gseq fun N13 hN13 => ?_
          refine greg ?_
          refine gop (y_move (v := .string _) rfl) rfl rfl rfl ?_
          refine gop (y_eqls rfl rfl) rfl rfl rfl ?_
          refine gop (y_move (v := .bool _) rfl) rfl rfl rfl ?_
          refine gop_if (want := false) rfl rfl rfl rfl rfl rfl (fun hg24 => ?_) (fun hg24 => ?_)
          · 
            have hg24d := hg24
            refine gop (y_bare (y_move (v := .string _) rfl)) rfl rfl rfl ?_
            refine gop_on rfl rfl rfl rfl hg24 ?_
            refine gop (y_bare (y_eqls rfl rfl)) rfl rfl rfl ?_
            refine gop (y_pick_f (v := .bool _) rfl hg24 rfl) rfl rfl rfl ?_
            refine gop (y_move (v := .bool _) rfl) rfl rfl rfl ?_
            refine gop_if (want := false) rfl rfl rfl rfl rfl rfl (fun hg28 => ?_) (fun hg28 => ?_)
            · 
              have hg28d := hg28
              refine gop (y_bare (y_move (v := .string _) rfl)) rfl rfl rfl ?_
              refine gop_on rfl rfl rfl rfl hg28 ?_
              refine gop (y_bare (y_eqls rfl rfl)) rfl rfl rfl ?_
              refine gop (y_pick_f (v := .bool _) rfl hg28 rfl) rfl rfl rfl ?_
              refine gops_nil ?_
              refine hN13 _ _ ?_
              refine gfrom [(3, .slice (some ⟨rg0, 0, none⟩) _ _), (4, .int _ _), (5, .string _), (31, .bool _)] ⟨rfl, rfl, rfl, rfl, trivial⟩ fun σ => ?_
              refine gcond (b := _) rfl (fun hc31 => ?_) (fun hc31 => ?_)
              · 
                refine gseq fun N14 hN14 => ?_
                refine greg ?_
                refine gop (y_assign (v := .int _ _) rfl) rfl rfl rfl ?_
                refine gops_nil ?_
                refine hN14 _ _ ?_
                refine gfrom [(2, .int _ _)] ⟨rfl, trivial⟩ fun σ => ?_
                refine gret fun w1 hM => ?_
                refine ⟨_, res1 rfl (rt (v := .int _ _) rfl), ?_⟩
                have hpc : partCode (cutS s)[k] = 12 := by rw [partCode, if_pos (by simp_all [dotty, strEq])]
                exact ⟨by rw [patCode, if_neg (by omega), partsCode_hit (List.getElem?_eq_getElem hk1) hz (by omega), hpc]; rfl, hM.low⟩
              · 
                refine gskip ?_
                refine gcut3_end (()) (by simp_all [dotty, strEq]) trivial ⟨rfl, rfl, rfl, trivial⟩ ⟨_, rfl⟩
            · 
              have hg28d := hg28
              refine gop_off rfl rfl rfl rfl hg28 rfl rfl ?_
              refine gop (y_pick_t (v := .bool _) rfl hg28 rfl) rfl rfl rfl ?_
              refine gops_nil ?_
              refine hN13 _ _ ?_
              refine gfrom [(3, .slice (some ⟨rg0, 0, none⟩) _ _), (4, .int _ _), (5, .string _), (31, .bool _)] ⟨rfl, rfl, rfl, rfl, trivial⟩ fun σ => ?_
              refine gcond (b := _) rfl (fun hc31 => ?_) (fun hc31 => ?_)
              · 
                refine gseq fun N15 hN15 => ?_
                refine greg ?_
                refine gop (y_assign (v := .int _ _) rfl) rfl rfl rfl ?_
                refine gops_nil ?_
                refine hN15 _ _ ?_
                refine gfrom [(2, .int _ _)] ⟨rfl, trivial⟩ fun σ => ?_
                refine gret fun w1 hM => ?_
                refine ⟨_, res1 rfl (rt (v := .int _ _) rfl), ?_⟩
                have hpc : partCode (cutS s)[k] = 12 := by rw [partCode, if_pos (by simp_all [dotty, strEq])]
                exact ⟨by rw [patCode, if_neg (by omega), partsCode_hit (List.getElem?_eq_getElem hk1) hz (by omega), hpc]; rfl, hM.low⟩
              · 
                cases hc31
          · 
            have hg24d := hg24
            refine gop_off rfl rfl rfl rfl hg24 rfl rfl ?_
            refine gop (y_pick_t (v := .bool _) rfl hg24 rfl) rfl rfl rfl ?_
            refine gop (y_move (v := .bool _) rfl) rfl rfl rfl ?_
            refine gop_off rfl rfl rfl rfl rfl rfl rfl ?_
            refine gop_off rfl rfl rfl rfl rfl rfl rfl ?_
            refine gop (y_pick_t (v := .bool _) rfl rfl rfl) rfl rfl rfl ?_
            refine gops_nil ?_
            refine hN13 _ _ ?_
            refine gfrom [(3, .slice (some ⟨rg0, 0, none⟩) _ _), (4, .int _ _), (5, .string _), (31, .bool _)] ⟨rfl, rfl, rfl, rfl, trivial⟩ fun σ => ?_
            refine gcond (b := _) rfl (fun hc31 => ?_) (fun hc31 => ?_)
            · 
              refine gseq fun N16 hN16 => ?_
              refine greg ?_
              refine gop (y_assign (v := .int _ _) rfl) rfl rfl rfl ?_
              refine gops_nil ?_
              refine hN16 _ _ ?_
              refine gfrom [(2, .int _ _)] ⟨rfl, trivial⟩ fun σ => ?_
              refine gret fun w1 hM => ?_
              refine ⟨_, res1 rfl (rt (v := .int _ _) rfl), ?_⟩
              have hpc : partCode (cutS s)[k] = 12 := by rw [partCode, if_pos (by simp_all [dotty, strEq])]
              exact ⟨by rw [patCode, if_neg (by omega), partsCode_hit (List.getElem?_eq_getElem hk1) hz (by omega), hpc]; rfl, hM.low⟩
            · 
              cases hc31
        ·
          intro g hcut σ
          refine hN12 _ _ ?_
          have hdot := hcut
          refine gseq fun N17 hN17 => ?_
          refine gseq fun N18 hN18 => ?_
          refine greg ?_
          refine gop (y_move (v := .string _) rfl) rfl rfl rfl ?_
          refine gop (y_eqls rfl rfl) rfl rfl rfl ?_
          refine gops_nil ?_
          refine hN18 _ _ ?_
          refine gT [rowl _ _ _ _ _ _] rfl ?_
          refine gfrom [(3, .slice (some ⟨rg0, 0, none⟩) _ _), (4, .int _ _), (5, .string _), (33, .bool _)] ⟨rfl, rfl, rfl, rfl, trivial⟩ fun σ => ?_
          refine gcond (b := _) rfl (fun hc33 => ?_) (fun hc33 => ?_)
          · 
            have hss : strEq (cutS s)[k] sStars = true := hc33
            have hpz : partCode (cutS s)[k] = 0 := by rw [partCode, hdot, hss]; rfl
            refine gexit ?_
            refine hN10 _ _ ?_
            refine gfrom [(3, .slice (some ⟨rg0, 0, none⟩) _ _), (4, .int _ _)] ⟨rfl, rfl, trivial⟩ fun σ => ?_
            refine greg ?_
            refine gop (y_move (v := .int _ _) rfl) rfl rfl rfl ?_
            refine gop (y_add rfl rfl ⟨by omega, by omega⟩) rfl rfl rfl ?_
            refine gop (y_assign (v := .int _ _) rfl) rfl rfl rfl ?_
            refine gops_nil ?_
            refine gnext2 (k + 1) (by omega) (⟨by omega, fun j h hj => by rcases Nat.lt_succ_iff_lt_or_eq.1 hj with h1 | rfl; exact hz j h h1; exact hpz⟩) ⟨rfl, trivial⟩ ⟨rfl, trivial⟩ ⟨_, rfl⟩
          · 
            have hss : strEq (cutS s)[k] sStars = false := hc33
            refine gskip ?_
            refine hN17 _ _ ?_
            refine gfrom [(3, .slice (some ⟨rg0, 0, none⟩) _ _), (4, .int _ _), (5, .string _)] ⟨rfl, rfl, rfl, trivial⟩ fun σ => ?_
            refine gseq fun N19 hN19 => ?_
            refine greg ?_
            refine gop (y_assign (v := .int _ _) rfl) rfl rfl rfl ?_
            refine gops_nil ?_
            refine hN19 _ _ ?_
            refine gfrom [(3, .slice (some ⟨rg0, 0, none⟩) _ _), (4, .int _ _), (5, .string _), (6, .int _ _)] ⟨rfl, rfl, rfl, rfl, trivial⟩ fun σ => ?_
            refine gblock ?_
            refine gfrom2 [(6, .int _ _)] [(3, .slice (some ⟨rg0, 0, none⟩) _ _), (4, .int _ _), (5, .string _)] ⟨rfl, trivial⟩ ⟨rfl, rfl, rfl, trivial⟩ fun σ => ?_
            refine gloop2 (G := Nat) (fun i => i ≤ (cutS s)[k].size ∧ scanP (cutS s)[k] ((cutS s)[k].size - i) = scanP (cutS s)[k] (cutS s)[k].size) (fun i => (cutS s)[k].size - i) (fun i => [(6, .int .i64 (i : Int))]) (fun i => []) (0) ?h0 ⟨rfl, trivial⟩ ⟨rfl, rfl, rfl, trivial⟩ rfl ?round
            case h0 => exact ⟨Nat.zero_le _, rfl⟩
            case round =>
              intro i hφ σ
              obtain ⟨hi, hi2⟩ := hφ
              refine gseq fun N20 hN20 => ?_
              refine gseq fun N21 hN21 => ?_
              refine greg ?_
              refine gop (y_move (v := .int _ _) rfl) rfl rfl rfl ?_
              refine gop (y_move (v := .string _) rfl) rfl rfl rfl ?_
              refine gop (y_lens Tryd.underlying9 rfl) rfl rfl rfl ?_
              refine gop (y_lss rfl rfl) rfl rfl rfl ?_
              refine gops_nil ?_
              refine hN21 _ _ ?_
              refine gfrom [(3, .slice (some ⟨rg0, 0, none⟩) _ _), (4, .int _ _), (5, .string _), (6, .int _ _), (37, .bool _)] ⟨rfl, rfl, rfl, rfl, rfl, trivial⟩ fun σ => ?_
              refine gcond (b := _) rfl (fun hc37 => ?_) (fun hc37 => ?_)
              · 
                replace hc37 := of_decide_eq_true hc37
                refine gskip ?_
                refine hN20 _ _ ?_
                refine gfrom [(3, .slice (some ⟨rg0, 0, none⟩) _ _), (4, .int _ _), (5, .string _), (6, .int _ _)] ⟨rfl, rfl, rfl, rfl, trivial⟩ fun σ => ?_
                refine gseq fun N22 hN22 => ?_
                refine gfrom [(3, .slice (some ⟨rg0, 0, none⟩) _ _), (4, .int _ _), (5, .string _), (6, .int _ _)] ⟨rfl, rfl, rfl, rfl, trivial⟩ fun σ => ?_
                refine gcut3 (Lf := [(3, .slice (some ⟨rg0, 0, none⟩) _ _), (4, .int _ _), (5, .string _), (6, .int _ _)]) (G := Unit) (fun g => wildBad (cutS s)[k] i = false ∧ charBad (cutS s)[k] i = false) (fun g => []) (fun g => []) ⟨rfl, rfl, rfl, rfl, trivial⟩ ?_ ?_
                ·
                  refine gblock ?_
                  refine gseq fun N23 hN23 => ?_
                  refine gfrom [(3, .slice (some ⟨rg0, 0, none⟩) _ _), (4, .int _ _), (5, .string _), (6, .int _ _)] ⟨rfl, rfl, rfl, rfl, trivial⟩ fun σ => ?_
                  refine gcut3 (Lf := [(3, .slice (some ⟨rg0, 0, none⟩) _ _), (4, .int _ _), (5, .string _), (6, .int _ _)]) (G := Unit) (fun g => wildBad (cutS s)[k] i = false) (fun g => []) (fun g => []) ⟨rfl, rfl, rfl, rfl, trivial⟩ ?_ ?_
                  ·
                    refine gseq fun N24 hN24 => ?_
                    refine greg ?_
                    refine gop (y_move (v := .string _) rfl) rfl rfl rfl ?_
                    refine gop (y_move (v := .int _ _) rfl) rfl rfl rfl ?_
                    refine gop (y_stridx (m := i) Tryd.underlying9 rfl rfl (by omega) (by omega) (by omega)) rfl rfl rfl ?_
                    refine gop (y_eql rfl rfl) rfl rfl rfl ?_
                    refine gop (y_move (v := .bool _) rfl) rfl rfl rfl ?_
                    refine gop_if (want := true) rfl rfl rfl rfl rfl rfl (fun hg44 => ?_) (fun hg44 => ?_)
                    · 
                      have hg44d := of_decide_eq_true hg44
                      refine gop (y_bare (y_move (v := .int _ _) rfl)) rfl rfl rfl ?_
                      refine gop_on rfl rfl rfl rfl hg44 ?_
                      refine gop (y_bare (y_gtr rfl rfl)) rfl rfl rfl ?_
                      refine gop (y_pick_t (v := .bool _) rfl hg44 rfl) rfl rfl rfl ?_
                      refine gop (y_move (v := .bool _) rfl) rfl rfl rfl ?_
                      refine gop_if (want := true) rfl rfl rfl rfl rfl rfl (fun hg48 => ?_) (fun hg48 => ?_)
                      · 
                        have hg48d := of_decide_eq_true hg48
                        refine gop (y_bare (y_move (v := .string _) rfl)) rfl rfl rfl ?_
                        refine gop_on rfl rfl rfl rfl hg48 ?_
                        refine gop (y_bare (y_move (v := .int _ _) rfl)) rfl rfl rfl ?_
                        refine gop_on rfl rfl rfl rfl hg48 ?_
                        refine gop (y_bare (y_sub rfl rfl ⟨by omega, by omega⟩)) rfl rfl rfl ?_
                        refine gop_on rfl rfl rfl rfl hg48 ?_
                        refine gop (y_bare (y_stridx (m := i - 1) Tryd.underlying9 rfl rfl (by omega) (by omega) (by omega))) rfl rfl rfl ?_
                        refine gop_on rfl rfl rfl rfl hg48 ?_
                        refine gop (y_bare (y_eql rfl rfl)) rfl rfl rfl ?_
                        refine gop (y_pick_t (v := .bool _) rfl hg48 rfl) rfl rfl rfl ?_
                        refine gops_nil ?_
                        refine hN24 _ _ ?_
                        refine gfrom [(3, .slice (some ⟨rg0, 0, none⟩) _ _), (4, .int _ _), (5, .string _), (6, .int _ _), (54, .bool _)] ⟨rfl, rfl, rfl, rfl, rfl, trivial⟩ fun σ => ?_
                        refine gcond (b := _) rfl (fun hc54 => ?_) (fun hc54 => ?_)
                        · 
                          replace hc54 := of_decide_eq_true hc54
                          refine gseq fun N25 hN25 => ?_
                          refine greg ?_
                          refine gop (y_assign (v := .int _ _) rfl) rfl rfl rfl ?_
                          refine gops_nil ?_
                          refine hN25 _ _ ?_
                          refine gfrom [(2, .int _ _)] ⟨rfl, trivial⟩ fun σ => ?_
                          refine gret fun w1 hM => ?_
                          refine ⟨_, res1 rfl (rt (v := .int _ _) rfl), ?_⟩
                          have hpc : partCode (cutS s)[k] = 1 := by rw [partCode, hdot, hss, if_neg (by simp), if_neg (by simp), ← hi2]; exact scanP_wild (by omega) (by simp [wildBad]; omega)
                          exact ⟨by rw [patCode, if_neg (by omega), partsCode_hit (List.getElem?_eq_getElem hk1) hz (by omega), hpc]; rfl, hM.low⟩
                        · 
                          replace hc54 := of_decide_eq_false hc54
                          refine gskip ?_
                          refine gcut3_end (()) (by simp [wildBad]; omega) trivial ⟨rfl, rfl, rfl, rfl, trivial⟩ ⟨_, rfl⟩
                      · 
                        have hg48d := of_decide_eq_false hg48
                        refine gop_off rfl rfl rfl rfl hg48 rfl rfl ?_
                        refine gop_off rfl rfl rfl rfl hg48 rfl rfl ?_
                        refine gop_off rfl rfl rfl rfl hg48 rfl rfl ?_
                        refine gop_off rfl rfl rfl rfl hg48 rfl rfl ?_
                        refine gop (y_pick_f (v := .bool _) rfl hg48 rfl) rfl rfl rfl ?_
                        refine gops_nil ?_
                        refine hN24 _ _ ?_
                        refine gfrom [(3, .slice (some ⟨rg0, 0, none⟩) _ _), (4, .int _ _), (5, .string _), (6, .int _ _), (54, .bool _)] ⟨rfl, rfl, rfl, rfl, rfl, trivial⟩ fun σ => ?_
                        refine gcond (b := _) rfl (fun hc54 => ?_) (fun hc54 => ?_)
                        · 
                          cases hc54
                        · 
                          refine gskip ?_
                          refine gcut3_end (()) (by simp [wildBad]; omega) trivial ⟨rfl, rfl, rfl, rfl, trivial⟩ ⟨_, rfl⟩
                    · 
                      have hg44d := of_decide_eq_false hg44
                      refine gop_off rfl rfl rfl rfl hg44 rfl rfl ?_
                      refine gop (y_pick_f (v := .bool _) rfl hg44 rfl) rfl rfl rfl ?_
                      refine gop (y_move (v := .bool _) rfl) rfl rfl rfl ?_
                      refine gop_off rfl rfl rfl rfl rfl rfl rfl ?_
                      refine gop_off rfl rfl rfl rfl rfl rfl rfl ?_
                      refine gop_off rfl rfl rfl rfl rfl rfl rfl ?_
                      refine gop_off rfl rfl rfl rfl rfl rfl rfl ?_
                      refine gop_off rfl rfl rfl rfl rfl rfl rfl ?_
                      refine gop (y_pick_f (v := .bool _) rfl rfl rfl) rfl rfl rfl ?_
                      refine gops_nil ?_
                      refine hN24 _ _ ?_
                      refine gfrom [(3, .slice (some ⟨rg0, 0, none⟩) _ _), (4, .int _ _), (5, .string _), (6, .int _ _), (54, .bool _)] ⟨rfl, rfl, rfl, rfl, rfl, trivial⟩ fun σ => ?_
                      refine gcond (b := _) rfl (fun hc54 => ?_) (fun hc54 => ?_)
                      · 
                        cases hc54
                      · 
                        refine gskip ?_
                        refine gcut3_end (()) (by simp [wildBad]; omega) trivial ⟨rfl, rfl, rfl, rfl, trivial⟩ ⟨_, rfl⟩
                  ·
                    intro g hcut σ
                    refine hN23 _ _ ?_
                    have hwb := hcut
                    refine gseq fun N26 hN26 => ?_
                    refine greg ?_
                    refine gop (y_move (v := .string _) rfl) rfl rfl rfl ?_
                    refine gop (y_move (v := .int _ _) rfl) rfl rfl rfl ?_
                    refine gop (y_stridx (m := i) Tryd.underlying9 rfl rfl (by omega) (by omega) (by omega)) rfl rfl rfl ?_
                    refine gop (y_neq rfl rfl) rfl rfl rfl ?_
                    refine gop (y_move (v := .bool _) rfl) rfl rfl rfl ?_
                    refine gop_if (want := true) rfl rfl rfl rfl rfl rfl (fun hg59 => ?_) (fun hg59 => ?_)
                    · 
                      have hg59d := of_decide_eq_true hg59
                      refine gop (y_bare (y_move (v := .string _) rfl)) rfl rfl rfl ?_
                      refine gop_on rfl rfl rfl rfl hg59 ?_
                      refine gop (y_bare (y_move (v := .int _ _) rfl)) rfl rfl rfl ?_
                      refine gop_on rfl rfl rfl rfl hg59 ?_
                      refine gop (y_bare (y_stridx (m := i) Tryd.underlying9 rfl rfl (by omega) (by omega) (by omega))) rfl rfl rfl ?_
                      refine gop_on rfl rfl rfl rfl hg59 ?_
                      refine gop (y_bare (y_neq rfl rfl)) rfl rfl rfl ?_
                      refine gop (y_pick_t (v := .bool _) rfl hg59 rfl) rfl rfl rfl ?_
                      refine gop (y_move (v := .bool _) rfl) rfl rfl rfl ?_
                      refine gop_if (want := true) rfl rfl rfl rfl rfl rfl (fun hg65 => ?_) (fun hg65 => ?_)
                      · 
                        have hg65d := of_decide_eq_true hg65
                        refine gop (y_bare (y_move (v := .string _) rfl)) rfl rfl rfl ?_
                        refine gop_on rfl rfl rfl rfl hg65 ?_
                        refine gop (y_bare (y_move (v := .int _ _) rfl)) rfl rfl rfl ?_
                        refine gop_on rfl rfl rfl rfl hg65 ?_
                        refine gop (y_bare (y_stridx (m := i) Tryd.underlying9 rfl rfl (by omega) (by omega) (by omega))) rfl rfl rfl ?_
                        refine gop_on rfl rfl rfl rfl hg65 ?_
                        refine gop_pure (e_call (vs := [.int _ _]) Tryd.func59 rfl (by kernel_rfl) rfl) (fun w hM => isByte_any w _) rfl rfl rfl ?_
                        refine gop_on rfl rfl rfl rfl hg65 ?_
                        refine gop (y_bare (y_not rfl)) rfl rfl rfl ?_
                        refine gop (y_pick_t (v := .bool _) rfl hg65 rfl) rfl rfl rfl ?_
                        refine gops_nil ?_
                        refine hN26 _ _ ?_
                        refine gT [rowl _ _ _ _ _ _] rfl ?_
                        refine gfrom [(3, .slice (some ⟨rg0, 0, none⟩) _ _), (4, .int _ _), (5, .string _), (6, .int _ _), (71, .bool _)] ⟨rfl, rfl, rfl, rfl, rfl, trivial⟩ fun σ => ?_
                        refine gcond (b := _) rfl (fun hc71 => ?_) (fun hc71 => ?_)
                        · 
                          replace hc71 := not_t hc71
                          refine gseq fun N27 hN27 => ?_
                          refine greg ?_
                          refine gop (y_assign (v := .int _ _) rfl) rfl rfl rfl ?_
                          refine gops_nil ?_
                          refine hN27 _ _ ?_
                          refine gfrom [(2, .int _ _)] ⟨rfl, trivial⟩ fun σ => ?_
                          refine gret fun w1 hM => ?_
                          refine ⟨_, res1 rfl (rt (v := .int _ _) rfl), ?_⟩
                          have hpc : partCode (cutS s)[k] = 12 := by rw [partCode, hdot, hss, if_neg (by simp), if_neg (by simp), ← hi2]; exact scanP_char (by omega) hwb (by first | (simp_all [charBad]; done) | (simp_all [charBad]; omega))
                          exact ⟨by rw [patCode, if_neg (by omega), partsCode_hit (List.getElem?_eq_getElem hk1) hz (by omega), hpc]; rfl, hM.low⟩
                        · 
                          replace hc71 := not_f hc71
                          refine gskip ?_
                          refine gcut3_end (()) (⟨hwb, by first | (simp [charBad]; omega) | (simp_all [charBad]; done) | (simp_all [charBad]; omega)⟩) trivial ⟨rfl, rfl, rfl, rfl, trivial⟩ ⟨_, rfl⟩
                      · 
                        have hg65d := Decidable.not_not.1 (of_decide_eq_false hg65)
                        refine gop_off rfl rfl rfl rfl hg65 rfl rfl ?_
                        refine gop_off rfl rfl rfl rfl hg65 rfl rfl ?_
                        refine gop_off rfl rfl rfl rfl hg65 rfl rfl ?_
                        refine gop_off rfl rfl rfl rfl hg65 rfl rfl ?_
                        refine gop (y_pick_f (v := .bool _) rfl hg65 rfl) rfl rfl rfl ?_
                        refine gops_nil ?_
                        refine hN26 _ _ ?_
                        refine gT [rowl _ _ _ _ _ _] rfl ?_
                        refine gfrom [(3, .slice (some ⟨rg0, 0, none⟩) _ _), (4, .int _ _), (5, .string _), (6, .int _ _), (71, .bool _)] ⟨rfl, rfl, rfl, rfl, rfl, trivial⟩ fun σ => ?_
                        refine gcond (b := _) rfl (fun hc71 => ?_) (fun hc71 => ?_)
                        · 
                          cases hc71
                        · 
                          refine gskip ?_
                          refine gcut3_end (()) (⟨hwb, by first | (simp [charBad]; omega) | (simp_all [charBad]; done) | (simp_all [charBad]; omega)⟩) trivial ⟨rfl, rfl, rfl, rfl, trivial⟩ ⟨_, rfl⟩
                    · 
                      have hg59d := Decidable.not_not.1 (of_decide_eq_false hg59)
                      refine gop_off rfl rfl rfl rfl hg59 rfl rfl ?_
                      refine gop_off rfl rfl rfl rfl hg59 rfl rfl ?_
                      refine gop_off rfl rfl rfl rfl hg59 rfl rfl ?_
                      refine gop (y_pick_f (v := .bool _) rfl hg59 rfl) rfl rfl rfl ?_
                      refine gop (y_move (v := .bool _) rfl) rfl rfl rfl ?_
                      refine gop_off rfl rfl rfl rfl rfl rfl rfl ?_
                      refine gop_off rfl rfl rfl rfl rfl rfl rfl ?_
                      refine gop_off rfl rfl rfl rfl rfl rfl rfl ?_
                      refine gop_off rfl rfl rfl rfl rfl rfl rfl ?_
                      refine gop_off rfl rfl rfl rfl rfl rfl rfl ?_
                      refine gop (y_pick_f (v := .bool _) rfl rfl rfl) rfl rfl rfl ?_
                      refine gops_nil ?_
                      refine hN26 _ _ ?_
                      refine gT [rowl _ _ _ _ _ _] rfl ?_
                      refine gfrom [(3, .slice (some ⟨rg0, 0, none⟩) _ _), (4, .int _ _), (5, .string _), (6, .int _ _), (71, .bool _)] ⟨rfl, rfl, rfl, rfl, rfl, trivial⟩ fun σ => ?_
                      refine gcond (b := _) rfl (fun hc71 => ?_) (fun hc71 => ?_)
                      · 
                        cases hc71
                      · 
                        refine gskip ?_
                        refine gcut3_end (()) (⟨hwb, by first | (simp [charBad]; omega) | (simp_all [charBad]; done) | (simp_all [charBad]; omega)⟩) trivial ⟨rfl, rfl, rfl, rfl, trivial⟩ ⟨_, rfl⟩
                ·
                  intro g hcut σ
                  refine hN22 _ _ ?_
                  obtain ⟨hwb, hcb⟩ := hcut
                  refine greg ?_
                  refine gop (y_move (v := .int _ _) rfl) rfl rfl rfl ?_
                  refine gop (y_add rfl rfl ⟨by omega, by omega⟩) rfl rfl rfl ?_
                  refine gop (y_assign (v := .int _ _) rfl) rfl rfl rfl ?_
                  refine gops_nil ?_
                  refine gnext2 (i + 1) (by omega) (⟨by omega, (scanP_step (by omega) hwb hcb).trans hi2⟩) ⟨rfl, trivial⟩ ⟨rfl, rfl, rfl, trivial⟩ ⟨_, rfl⟩
              · 
                replace hc37 := of_decide_eq_false hc37
                have hpz : partCode (cutS s)[k] = 0 := by rw [partCode, hdot, hss, if_neg (by simp), if_neg (by simp), ← hi2, show i = (cutS s)[k].size by omega]; exact scanP_end
                refine gexit ?_
                refine hN10 _ _ ?_
                refine gfrom [(3, .slice (some ⟨rg0, 0, none⟩) _ _), (4, .int _ _)] ⟨rfl, rfl, trivial⟩ fun σ => ?_
                refine greg ?_
                refine gop (y_move (v := .int _ _) rfl) rfl rfl rfl ?_
                refine gop (y_add rfl rfl ⟨by omega, by omega⟩) rfl rfl rfl ?_
                refine gop (y_assign (v := .int _ _) rfl) rfl rfl rfl ?_
                refine gops_nil ?_
                refine gnext2 (k + 1) (by omega) (⟨by omega, fun j h hj => by rcases Nat.lt_succ_iff_lt_or_eq.1 hj with h1 | rfl; exact hz j h h1; exact hpz⟩) ⟨rfl, trivial⟩ ⟨rfl, trivial⟩ ⟨_, rfl⟩
      · 
        replace hc15 := of_decide_eq_false hc15
        have hB : patCode s = 0 := by rw [patCode, if_neg (by omega)]; exact partsCode_zero (fun j hj => hz j hj (by omega))
        refine gexit ?_
        refine hN6 _ _ ?_
        refine gfrom [] trivial fun σ => ?_
        refine gseq fun N28 hN28 => ?_
        refine greg ?_
        refine gop (y_assign (v := .int _ _) rfl) rfl rfl rfl ?_
        refine gops_nil ?_
        refine hN28 _ _ ?_
        refine gfrom [(2, .int _ _)] ⟨rfl, trivial⟩ fun σ => ?_
        refine gret fun w1 hM => ?_
        refine ⟨_, res1 rfl (rt (v := .int _ _) rfl), ?_⟩
        exact ⟨by rw [hB]; rfl, hM.low⟩
end Go.Proofs.YtijpaljdclhehaaDoor
