/- Own frame, plain models and walks, part 5 (texts of this claim put together). -/
import Derived.Test.YtllblbkbglifjaaDoorP31d
import Derived.Carry
import Derived.ChangeOld
import Derived.Deep.CondSized
import Derived.Deep.Slices
import Derived.LaidLaws
import Derived.Lib.LaidTab
import Derived.MakeChecks
import Derived.OpenShut
import Derived.ProofKit
import Derived.SizedLaws
import Derived.Stop.LaidErr
import Derived.Test.YtllblbkbglifjaaDoorProg
import Derived.Test.YtllblbkbglifjaaDoorRows
namespace Go.Proofs.YtllblbkbglifjaaDoor
open Go.RowKit Go.Cf
set_option maxRecDepth 10000
theorem fa69_2 (a : Addr) (w : World) : (Instr.fieldAt 69 (.pointer (some a)) 2).run Tryd.prog w = .ok (.pointer (some (a.add 2))) w := by kernel_rfl
set_option maxHeartbeats 16000000 in
theorem refReduce_any (w0 w : World) (bg : Nat) (A1 A2 A3 : Option Addr) (c1 c2 c3 : Nat) (ω0 : List Tr) (sq0 : List ByteArray) (fr : Reg) (hM1 : Mem w0 [pk (bldE bg w0.heap.size A1 c1 A2 c2 A3 c3 (nodesOf ω0) (opsOf ω0) (sq0.reverse)), fr] w) (hbn0 : bins sq0 + 1 ≤ ω0.length) (htt0 : total ω0 + sq0.length ≤ 400) (lo : Int) (low : Nat) (hlo : lo = (low : Int)) (hl1 : 1 ≤ low) :
    Calls Tryd.prog 37 #[.pointer (some ⟨bg, 0, none⟩), .int .i64 lo] w fun e w' => e = .returned (.tuple #[]) ∧ ∃ B1 B2 B3 d1 d2 d3, Mem w0 [pk (bldE bg w0.heap.size B1 d1 B2 d2 B3 d3 (nodesOf (redW low sq0 ω0).2) (opsOf (redW low sq0 ω0).2) ((redW low sq0 ω0).1.reverse)), fr] w' := by
  have hM0 := hM1.unpk
  refine gcallsT Tryd.func37 rfl Tryd.ntmps37 (Nat.le_of_ble_eq_true rfl) hM0 ?_
  refine gfrom [(0, .pointer (some ⟨bg, 0, none⟩)), (1, .int _ _)] ⟨rfl, rfl, trivial⟩ fun σ => ?_
  refine gblock ?_
  refine gfrom2 [] [(0, .pointer (some ⟨bg, 0, none⟩)), (1, .int _ _)] trivial ⟨rfl, rfl, trivial⟩ fun σ => ?_
  refine gloop2 (G := List Tr × List ByteArray × Option Addr × Nat × Option Addr × Nat × Option Addr × Nat) (fun (ω, sq, B1, d1, B2, d2, B3, d3) => redW low sq ω = redW low sq0 ω0 ∧ bins sq + 1 ≤ ω.length ∧ total ω + sq.length ≤ 400) (fun (ω, sq, B1, d1, B2, d2, B3, d3) => sq.length) (fun (ω, sq, B1, d1, B2, d2, B3, d3) => []) (fun (ω, sq, B1, d1, B2, d2, B3, d3) => [(0, box bg (.cells #[.slice B1 (nodesOf ω).length d1, .slice B2 (opsOf ω).length d2, .slice B3 sq.reverse.length d3] 69)), (1, rowl pnCells w0.heap.size 47 4 (.slice B1 (nodesOf ω).length d1) (nodesOf ω)), (2, rowl intCells w0.heap.size 3 1 (.slice B2 (opsOf ω).length d2) (opsOf ω)), (3, rowl strCells w0.heap.size 9 1 (.slice B3 sq.reverse.length d3) sq.reverse)]) ((ω0, sq0, A1, c1, A2, c2, A3, c3)) ?h0 trivial ⟨rfl, rfl, trivial⟩ rfl ?round
  case h0 => exact ⟨rfl, hbn0, htt0⟩
  case round =>
    rintro ⟨ω, sq, B1, d1, B2, d2, B3, d3⟩ hφ σ
    obtain ⟨hred, hbn, htt⟩ := hφ
    have hnl := nodes_len ω
    rw [total_rev] at hnl
    have htg := total_ge ω
    have hol0 := ops_len ω
    have hrv : sq.reverse.length = sq.length := List.length_reverse
    refine g_fact (fun w hM => row_fresh (hM.ok _ (List.mem_of_getElem? (i := 2) rfl))) ?_
    rintro ⟨hf2, hn2⟩
    refine g_fact (fun w hM => row_form (hM.ok _ (List.mem_of_getElem? (i := 2) rfl))) ?_
    rintro ⟨xA, xc, hxv, hc2, hm2, -⟩
    simp only [Value.slice.injEq] at hxv
    obtain ⟨rfl, -, rfl⟩ := hxv
    refine g_fact (fun w hM => row_fresh (hM.ok _ (List.mem_of_getElem? (i := 3) rfl))) ?_
    rintro ⟨hf3, hn3⟩
    refine g_fact (fun w hM => row_form (hM.ok _ (List.mem_of_getElem? (i := 3) rfl))) ?_
    rintro ⟨xA, xc, hxv, hc3, hm3, -⟩
    simp only [Value.slice.injEq] at hxv
    obtain ⟨rfl, -, rfl⟩ := hxv
    refine gT [box bg _, rowl _ _ _ _ _ _, rowl _ _ _ _ _ _, rowl _ _ _ _ _ _, fr] rfl ?_
    refine gseq fun N1 hN1 => ?_
    refine gseq fun N2 hN2 => ?_
    refine greg_q (by kernel_rfl) (by kernel_rfl) ?_
    refine gq (y_move (v := .pointer (some ⟨bg, 0, none⟩)) rfl) rfl rfl rfl ?_
    refine gq (y_nilCheck rfl) rfl rfl rfl ?_
    refine gq (y_fieldAddr_box fa69_2 rfl) rfl rfl rfl ?_
    refine gq (y_load Tryd.isAgg67 rfl (cell_box 0 rfl rfl)) rfl rfl rfl ?_
    refine gq (y_len Tryd.underlying67 rfl) rfl rfl rfl ?_
    refine gq (y_gtr rfl rfl) rfl rfl rfl ?_
    refine gq (y_move (v := .bool _) rfl) rfl rfl rfl ?_
    refine gq_if (want := true) rfl rfl rfl rfl rfl rfl (fun hg13 => ?_) (fun hg13 => ?_)
    · 
      have hg13d := of_decide_eq_true hg13
      obtain ⟨s, sq, rfl⟩ : ∃ s sq', sq = s :: sq' := by
        cases sq with
        | nil => simp at hg13d
        | cons s sq' => exact ⟨s, sq', rfl⟩
      obtain ⟨g3, rfl⟩ := fresh_some hf3 hn3 (by simp)
      have hrl : (s :: sq).reverse.length = sq.length + 1 := by simp
      have hrl2 : sq.reverse.length = sq.length := by simp
      have hsl : (s :: sq).length = sq.length + 1 := rfl
      refine gq (y_bare (y_move (v := .pointer (some ⟨bg, 0, none⟩)) rfl)) rfl rfl rfl ?_
      refine gq_on rfl rfl rfl rfl hg13 ?_
      refine gq (y_bare (y_nilCheck rfl)) rfl rfl rfl ?_
      refine gq_on rfl rfl rfl rfl hg13 ?_
      refine gq (y_bare (y_fieldAddr_box fa69_2 rfl)) rfl rfl rfl ?_
      refine gq_on rfl rfl rfl rfl hg13 ?_
      refine gq (y_bare (y_load Tryd.isAgg67 rfl (cell_box 0 rfl rfl))) rfl rfl rfl ?_
      refine gq_on rfl rfl rfl rfl hg13 ?_
      refine gq (y_bare (y_move (v := .pointer (some ⟨bg, 0, none⟩)) rfl)) rfl rfl rfl ?_
      refine gq_on rfl rfl rfl rfl hg13 ?_
      refine gq (y_bare (y_nilCheck rfl)) rfl rfl rfl ?_
      refine gq_on rfl rfl rfl rfl hg13 ?_
      refine gq (y_bare (y_fieldAddr_box fa69_2 rfl)) rfl rfl rfl ?_
      refine gq_on rfl rfl rfl rfl hg13 ?_
      refine gq (y_bare (y_load Tryd.isAgg67 rfl (cell_box 0 rfl rfl))) rfl rfl rfl ?_
      refine gq_on rfl rfl rfl rfl hg13 ?_
      refine gq (y_bare (y_len Tryd.underlying67 rfl)) rfl rfl rfl ?_
      refine gq_on rfl rfl rfl rfl hg13 ?_
      refine gq (y_bare (y_sub rfl rfl ⟨by omega, by omega⟩)) rfl rfl rfl ?_
      refine gq_on rfl rfl rfl rfl hg13 ?_
      refine gq (y_bare (y_indexAddr (m := sq.length) Tryd.underlying67 Tryd.sizeOf9 rfl rfl (by omega) (by omega) (by omega))) rfl rfl rfl ?_
      refine gq_on rfl rfl rfl rfl hg13 ?_
      refine gq (y_bare (y_load Tryd.isAgg9 rfl (cells_rowl 3 (f := strCells) (l := (s :: sq).reverse) rfl rfl (fun _ => rfl) (rev_last s sq) 0 _ rfl))) rfl rfl rfl ?_
      refine gq_on rfl rfl rfl rfl hg13 ?_
      refine gq_pure (e_call (vs := [.string _]) Tryd.func38 rfl (by kernel_rfl) rfl) (fun w hM => refRank_any w s) rfl rfl rfl ?_
      refine gq_on rfl rfl rfl rfl hg13 ?_
      refine gq (y_bare (y_move (v := .int _ _) rfl)) rfl rfl rfl ?_
      refine gq_on rfl rfl rfl rfl hg13 ?_
      refine gq (y_bare (y_geq rfl rfl)) rfl rfl rfl ?_
      refine gq (y_pick_t (v := .bool _) rfl hg13 rfl) rfl rfl rfl ?_
      refine gqs_nil ?_
      refine hN2 _ _ ?_
      refine gfrom [(0, .pointer (some ⟨bg, 0, none⟩)), (1, .int _ _), (29, .bool _)] ⟨rfl, rfl, rfl, trivial⟩ fun σ => ?_
      refine gcond (b := _) rfl (fun hc29 => ?_) (fun hc29 => ?_)
      · 
        replace hc29 := of_decide_eq_true hc29
        have hrk : low ≤ rankW s := by omega
        obtain ⟨b, ω1, rfl⟩ : ∃ b ω1, ω = b :: ω1 := by
          cases ω with
          | nil => simp at hbn
          | cons b ω1 => exact ⟨b, ω1, rfl⟩
        obtain ⟨g2, rfl⟩ := fresh_some hf2 hn2 (by rw [ops_push]; simp)
        have hol := ops_len (b :: ω1)
        have hol1 := ops_len ω1
        rw [List.length_cons] at hol
        refine gskip ?_
        refine hN1 _ _ ?_
        refine gfrom [(0, .pointer (some ⟨bg, 0, none⟩)), (1, .int _ _)] ⟨rfl, rfl, trivial⟩ fun σ => ?_
        refine gblock ?_
        refine gseq fun N3 hN3 => ?_
        refine greg_q (by kernel_rfl) (by kernel_rfl) ?_
        refine gq (y_move (v := .pointer (some ⟨bg, 0, none⟩)) rfl) rfl rfl rfl ?_
        refine gq (y_nilCheck rfl) rfl rfl rfl ?_
        refine gq (y_fieldAddr_box fa69_2 rfl) rfl rfl rfl ?_
        refine gq (y_load Tryd.isAgg67 rfl (cell_box 0 rfl rfl)) rfl rfl rfl ?_
        refine gq (y_move (v := .pointer (some ⟨bg, 0, none⟩)) rfl) rfl rfl rfl ?_
        refine gq (y_nilCheck rfl) rfl rfl rfl ?_
        refine gq (y_fieldAddr_box fa69_2 rfl) rfl rfl rfl ?_
        refine gq (y_load Tryd.isAgg67 rfl (cell_box 0 rfl rfl)) rfl rfl rfl ?_
        refine gq (y_len Tryd.underlying67 rfl) rfl rfl rfl ?_
        refine gq (y_sub rfl rfl ⟨by omega, by omega⟩) rfl rfl rfl ?_
        refine gq (y_indexAddr (m := sq.length) Tryd.underlying67 Tryd.sizeOf9 rfl rfl (by omega) (by omega) (by omega)) rfl rfl rfl ?_
        refine gq (y_load Tryd.isAgg9 rfl (cells_rowl 3 (f := strCells) (l := (s :: sq).reverse) rfl rfl (fun _ => rfl) (rev_last s sq) 0 _ rfl)) rfl rfl rfl ?_
        refine gq (y_assign (v := .string _) rfl) rfl rfl rfl ?_
        refine gqs_nil ?_
        refine hN3 _ _ ?_
        refine gfrom [(0, .pointer (some ⟨bg, 0, none⟩)), (1, .int _ _), (4, .string _)] ⟨rfl, rfl, rfl, trivial⟩ fun σ => ?_
        refine gseq fun N4 hN4 => ?_
        refine greg_e0 [14] (by kernel_rfl) ?_
        refine ge_take 0 (TK := [box bg _, rowl _ _ _ _ _ _, rowl _ _ _ _ _ _, rowl _ _ _ _ _ _, fr]) rfl (by kernel_rfl) (by kernel_rfl) (by kernel_rfl) #[false, true, true, true, true, true, true, true, true, true, true, true, false, false, false] (by kernel_rfl) rfl (y_move (v := .pointer (some ⟨bg, 0, none⟩)) rfl) rfl rfl rfl (weak_refl) (listed' := #[true, false, false, false, false, false, false, false, false, false, false, false, false, false, false]) rfl ?_
        refine ge_take 1 (TK := [box bg _, rowl _ _ _ _ _ _, rowl _ _ _ _ _ _, rowl _ _ _ _ _ _, fr]) rfl (by kernel_rfl) (by kernel_rfl) (by kernel_rfl) #[true, false, false, false, false, true, true, true, true, true, true, false, false, false, false] (by kernel_rfl) rfl (y_move (v := .pointer (some ⟨bg, 0, none⟩)) rfl) rfl rfl rfl (weak_refl) (listed' := #[true, true, false, false, false, false, false, false, false, false, false, false, false, false, false]) rfl ?_
        refine ge_take 2 (TK := [box bg _, rowl _ _ _ _ _ _, rowl _ _ _ _ _ _, rowl _ _ _ _ _ _, fr]) rfl (by kernel_rfl) (by kernel_rfl) (by kernel_rfl) #[true, true, false, false, false, true, true, true, true, true, true, false, false, false, false] (by kernel_rfl) rfl (y_nilCheck rfl) rfl rfl rfl (weak_refl) (listed' := #[true, true, true, false, false, false, false, false, false, false, false, false, false, false, false]) rfl ?_
        refine ge_take 3 (TK := [box bg _, rowl _ _ _ _ _ _, rowl _ _ _ _ _ _, rowl _ _ _ _ _ _, fr]) rfl (by kernel_rfl) (by kernel_rfl) (by kernel_rfl) #[true, true, true, false, false, true, true, true, true, true, true, false, false, false, false] (by kernel_rfl) rfl (y_fieldAddr_box fa69_2 rfl) rfl rfl rfl (weak_refl) (listed' := #[true, true, true, true, false, false, false, false, false, false, false, false, false, false, false]) rfl ?_
        refine ge_take 4 (TK := [box bg _, rowl _ _ _ _ _ _, rowl _ _ _ _ _ _, rowl _ _ _ _ _ _, fr]) rfl (by kernel_rfl) (by kernel_rfl) (by kernel_rfl) #[true, true, true, true, false, true, true, true, true, true, true, false, false, false, false] (by kernel_rfl) rfl (y_load Tryd.isAgg67 rfl (cell_box 0 rfl rfl)) rfl rfl rfl (weak_refl) (listed' := #[true, true, true, true, true, false, false, false, false, false, false, false, false, false, false]) rfl ?_
        refine ge_take 5 (TK := [box bg _, rowl _ _ _ _ _ _, rowl _ _ _ _ _ _, rowl _ _ _ _ _ _, fr]) rfl (by kernel_rfl) (by kernel_rfl) (by kernel_rfl) #[true, true, true, true, true, false, false, false, false, false, false, false, false, false, false] (by kernel_rfl) rfl (y_move (v := .pointer (some ⟨bg, 0, none⟩)) rfl) rfl rfl rfl (weak_refl) (listed' := #[true, true, true, true, true, true, false, false, false, false, false, false, false, false, false]) rfl ?_
        refine ge_take 6 (TK := [box bg _, rowl _ _ _ _ _ _, rowl _ _ _ _ _ _, rowl _ _ _ _ _ _, fr]) rfl (by kernel_rfl) (by kernel_rfl) (by kernel_rfl) #[true, true, true, true, true, true, false, false, false, false, false, false, false, false, false] (by kernel_rfl) rfl (y_nilCheck rfl) rfl rfl rfl (weak_refl) (listed' := #[true, true, true, true, true, true, true, false, false, false, false, false, false, false, false]) rfl ?_
        refine ge_take 7 (TK := [box bg _, rowl _ _ _ _ _ _, rowl _ _ _ _ _ _, rowl _ _ _ _ _ _, fr]) rfl (by kernel_rfl) (by kernel_rfl) (by kernel_rfl) #[true, true, true, true, true, true, true, false, false, false, false, false, false, false, false] (by kernel_rfl) rfl (y_fieldAddr_box fa69_2 rfl) rfl rfl rfl (weak_refl) (listed' := #[true, true, true, true, true, true, true, true, false, false, false, false, false, false, false]) rfl ?_
        refine ge_take 8 (TK := [box bg _, rowl _ _ _ _ _ _, rowl _ _ _ _ _ _, rowl _ _ _ _ _ _, fr]) rfl (by kernel_rfl) (by kernel_rfl) (by kernel_rfl) #[true, true, true, true, true, true, true, true, false, false, false, false, false, false, false] (by kernel_rfl) rfl (y_load Tryd.isAgg67 rfl (cell_box 0 rfl rfl)) rfl rfl rfl (weak_refl) (listed' := #[true, true, true, true, true, true, true, true, true, false, false, false, false, false, false]) rfl ?_
        refine ge_take 9 (TK := [box bg _, rowl _ _ _ _ _ _, rowl _ _ _ _ _ _, rowl _ _ _ _ _ _, fr]) rfl (by kernel_rfl) (by kernel_rfl) (by kernel_rfl) #[true, true, true, true, true, true, true, true, true, false, false, false, false, false, false] (by kernel_rfl) rfl (y_len Tryd.underlying67 rfl) rfl rfl rfl (weak_refl) (listed' := #[true, true, true, true, true, true, true, true, true, true, false, false, false, false, false]) rfl ?_
        refine ge_take 10 (TK := [box bg _, rowl _ _ _ _ _ _, rowl _ _ _ _ _ _, rowl _ _ _ _ _ _, fr]) rfl (by kernel_rfl) (by kernel_rfl) (by kernel_rfl) #[true, true, true, true, true, true, true, true, true, true, false, false, false, false, false] (by kernel_rfl) rfl (y_sub rfl rfl ⟨by omega, by omega⟩) rfl rfl rfl (weak_refl) (listed' := #[true, true, true, true, true, true, true, true, true, true, true, false, false, false, false]) rfl ?_
        refine ge_take 11 (TK := [box bg _, rowl _ _ _ _ _ _, rowl _ _ _ _ _ _, rowl _ _ _ _ _ _, fr]) rfl (by kernel_rfl) (by kernel_rfl) (by kernel_rfl) #[true, true, true, true, true, true, true, true, true, true, true, false, false, false, false] (by kernel_rfl) rfl (y_trunc0 (m := sq.reverse.length) hf3 Tryd.underlying67 Tryd.sizeOf9 rfl rfl (by omega) (by omega) (by omega)) rfl rfl rfl (weak_refl) (listed' := #[true, true, true, true, true, true, true, true, true, true, true, true, false, false, false]) rfl ?_
        refine ge_take 12 (TK := [box bg _, rowl _ _ _ _ _ _, rowl _ _ _ _ _ _, rowl _ _ _ _ _ _, fr]) rfl (by kernel_rfl) (by kernel_rfl) (by kernel_rfl) #[true, true, true, true, true, true, true, true, true, true, true, true, false, false, false] (by kernel_rfl) rfl (y_nilCheck rfl) rfl rfl rfl (weak_refl) (listed' := #[true, true, true, true, true, true, true, true, true, true, true, true, true, false, false]) rfl ?_
        refine ge_take 13 (TK := [box bg _, rowl _ _ _ _ _ _, rowl _ _ _ _ _ _, rowl _ _ _ _ _ _, fr]) rfl (by kernel_rfl) (by kernel_rfl) (by kernel_rfl) #[true, true, true, true, true, true, true, true, true, true, true, true, true, false, false] (by kernel_rfl) rfl (y_fieldAddr_box fa69_2 rfl) rfl rfl rfl (weak_refl) (listed' := #[true, true, true, true, true, true, true, true, true, true, true, true, true, true, false]) rfl ?_
        refine ge_one 14 (k' := 1) (listed' := #[true, true, true, true, true, true, true, true, true, true, true, true, true, true, true]) (by kernel_rfl) rfl rfl rfl ?_
        refine gop_store 0 (v := .slice (some ⟨g3, 0, none⟩) _ d3) (cs' := #[_, _, _]) rfl rfl Tryd.sizeOf67 rfl rfl rfl rfl (Nat.le_of_ble_eq_true rfl) rfl rfl ?_
        refine gops_nil ?_
        refine ge_fin (TK := []) rfl (weak_nil) ?_
        refine ge_done (by kernel_rfl) ?_
        refine hN4 _ _ ?_
        refine gT [box bg _, rowl _ _ _ _ _ _, rowl _ _ _ _ _ _, rowl _ _ _ _ _ _, fr] rfl ?_
        refine gfrom [(0, .pointer (some ⟨bg, 0, none⟩)), (1, .int _ _), (4, .string _)] ⟨rfl, rfl, rfl, trivial⟩ fun σ => ?_
        refine gseq fun N5 hN5 => ?_
        refine greg ?_
        refine gop (y_move (v := .pointer (some ⟨bg, 0, none⟩)) rfl) rfl rfl rfl ?_
        refine gops_mem _ (weak_trunc0 3 (f := strCells) (l := sq.reverse) (m := [s]) hf3 (by rw [← List.reverse_cons]; rfl) (fun _ => rfl)) ?_
        refine gop (y_nilCheck rfl) rfl rfl rfl ?_
        refine gop (y_fieldAddr_box fa69_1 rfl) rfl rfl rfl ?_
        refine gop (y_load Tryd.isAgg55 rfl (cell_box 0 rfl rfl)) rfl rfl rfl ?_
        refine gop (y_len Tryd.underlying55 rfl) rfl rfl rfl ?_
        refine gop (y_assign (v := .int _ _) rfl) rfl rfl rfl ?_
        refine gops_nil ?_
        refine hN5 _ _ ?_
        refine gfrom [(0, .pointer (some ⟨bg, 0, none⟩)), (1, .int _ _), (4, .string _), (5, .int _ _)] ⟨rfl, rfl, rfl, rfl, trivial⟩ fun σ => ?_
        refine gseq fun N6 hN6 => ?_
        refine greg ?_
        refine gop (y_move (v := .pointer (some ⟨bg, 0, none⟩)) rfl) rfl rfl rfl ?_
        refine gop (y_nilCheck rfl) rfl rfl rfl ?_
        refine gop (y_fieldAddr_box fa69_1 rfl) rfl rfl rfl ?_
        refine gop (y_load Tryd.isAgg55 rfl (cell_box 0 rfl rfl)) rfl rfl rfl ?_
        refine gop (y_move (v := .int _ _) rfl) rfl rfl rfl ?_
        refine gop (y_sub rfl rfl ⟨by omega, by omega⟩) rfl rfl rfl ?_
        refine gop (y_indexAddr (m := ω1.length) Tryd.underlying55 Tryd.sizeOf3 rfl rfl (by omega) (by omega) (by omega)) rfl rfl rfl ?_
        refine gop (y_load Tryd.isAgg3 rfl (cells_rowl 2 (f := intCells) (l := opsOf (b :: ω1)) rfl rfl (fun _ => rfl) (ops_last b ω1) 0 _ rfl)) rfl rfl rfl ?_
        refine gop (y_build (vs := [(0, _), (2, .int _ _)]) (cells := #[_, .int .i64 0, _, .int .i64 0]) rfl (bd47_0_2 _ _)) rfl rfl rfl ?_
        refine gop_alloc (cs := #[.int .i64 0, .int .i64 0, .int .i64 0, .int .i64 0]) Tryd.zeroValue47 rfl rfl (fun b6 hb6 => ?_)
        refine gop_store 5 (v := .agg #[_, _, _, _]) (cs' := #[_, _, _, _]) rfl rfl Tryd.sizeOf47 rfl rfl rfl rfl (Nat.le_of_ble_eq_true rfl) rfl rfl ?_
        refine gops_nil ?_
        refine hN6 _ _ ?_
        refine gT [box bg _, rowl _ _ _ _ _ _, rowl _ _ _ _ _ _, rowl _ _ _ _ _ _, fr, box b6 _] rfl ?_
        refine gfrom [(0, .pointer (some ⟨bg, 0, none⟩)), (1, .int _ _), (4, .string _), (5, .int _ _), (6, .pointer _)] ⟨rfl, rfl, rfl, rfl, rfl, trivial⟩ fun σ => ?_
        refine gseq fun N7 hN7 => ?_
        refine gseq fun N8 hN8 => ?_
        refine greg ?_
        refine gop (y_move (v := .string _) rfl) rfl rfl rfl ?_
        refine gop (y_neqs rfl rfl) rfl rfl rfl ?_
        refine gops_nil ?_
        refine hN8 _ _ ?_
        refine gfrom [(0, .pointer (some ⟨bg, 0, none⟩)), (1, .int _ _), (4, .string _), (5, .int _ _), (6, .pointer _), (71, .bool _)] ⟨rfl, rfl, rfl, rfl, rfl, rfl, trivial⟩ fun σ => ?_
        refine gcond (b := _) rfl (fun hc71 => ?_) (fun hc71 => ?_)
        · 
          have hsn : s ≠ wNot := by
            have h9 := hc71
            rw [strEq_dec] at h9
            simpa using h9
          have hsL : s ≠ wL := fun h9 => by rw [h9] at hrk; have h8 : rankW wL = 0 := by decide
                                            omega
          have hbb : bins (s :: sq) = 1 + bins sq := by rw [bins, if_neg (fun h9 => h9.elim hsn hsL)]
          obtain ⟨a, ω2, rfl⟩ : ∃ a ω2, ω1 = a :: ω2 := by
            cases ω1 with
            | nil => simp at hbn; omega
            | cons a ω2 => exact ⟨a, ω2, rfl⟩
          have hol2 := ops_len ω2
          rw [List.length_cons] at hol hol1
          obtain ⟨hpN, hpO⟩ := push_binN (8 - (rankW s : Int)) a b ω2
          have hred2 : redW low (s :: sq) (b :: a :: ω2) = redW low sq (.bin (8 - (rankW s : Int)) a b :: ω2) := red_up hrk (top_bin hsn a b ω2)
          have hops := ops_two a b ω2
          have hrk3 : rankW s ≤ 3 := by unfold rankW; (repeat' split) <;> omega
          have htot : total (Tr.bin (8 - (rankW s : Int)) a b :: ω2) = total (b :: a :: ω2) + 1 := by simp only [total, size_bin]; omega
          refine gseq fun N9 hN9 => ?_
          refine greg_e1 [] [(5, room b6 47 4)] (by kernel_rfl) ?_
          refine ge_take 0 (TK := [box bg _, rowl _ _ _ _ _ _, rowl _ _ _ _ _ _, rowl _ _ _ _ _ _, fr, room b6 47 4]) rfl (by kernel_rfl) (by kernel_rfl) (by kernel_rfl) #[false, false, false, true, true, true, true, true, true, true, true, true, true, true, true, true, true, true, true, false, false] (by kernel_rfl) rfl (y_move (v := .string _) rfl) rfl rfl rfl (weak_room 5 rfl rfl) (listed' := #[true, false, false, false, false, false, false, false, false, false, false, false, false, false, false, false, false, false, false, false, false]) rfl ?_
          refine ge_take 3 (TK := [box bg _, rowl _ _ _ _ _ _, rowl _ _ _ _ _ _, rowl _ _ _ _ _ _, fr, room b6 47 4]) rfl (by kernel_rfl) (by kernel_rfl) (by kernel_rfl) #[true, true, true, false, false, false, false, true, true, false, false, true, true, true, true, true, true, true, true, false, false] (by kernel_rfl) rfl (y_move (v := .pointer (some ⟨bg, 0, none⟩)) rfl) rfl rfl rfl (weak_room 5 rfl rfl) (listed' := #[true, false, false, true, false, false, false, false, false, false, false, false, false, false, false, false, false, false, false, false, false]) rfl ?_
          refine ge_take 4 (TK := [box bg _, rowl _ _ _ _ _ _, rowl _ _ _ _ _ _, rowl _ _ _ _ _ _, fr, room b6 47 4]) rfl (by kernel_rfl) (by kernel_rfl) (by kernel_rfl) #[true, true, true, true, false, false, false, true, true, false, false, true, true, true, true, true, true, true, true, false, false] (by kernel_rfl) rfl (y_nilCheck rfl) rfl rfl rfl (weak_room 5 rfl rfl) (listed' := #[true, false, false, true, true, false, false, false, false, false, false, false, false, false, false, false, false, false, false, false, false]) rfl ?_
          refine ge_take 5 (TK := [box bg _, rowl _ _ _ _ _ _, rowl _ _ _ _ _ _, rowl _ _ _ _ _ _, fr, room b6 47 4]) rfl (by kernel_rfl) (by kernel_rfl) (by kernel_rfl) #[true, true, true, true, true, false, false, true, true, false, false, true, true, true, true, true, true, true, true, false, false] (by kernel_rfl) rfl (y_fieldAddr_box fa69_1 rfl) rfl rfl rfl (weak_room 5 rfl rfl) (listed' := #[true, false, false, true, true, true, false, false, false, false, false, false, false, false, false, false, false, false, false, false, false]) rfl ?_
          refine ge_take 6 (TK := [box bg _, rowl _ _ _ _ _ _, rowl _ _ _ _ _ _, rowl _ _ _ _ _ _, fr, room b6 47 4]) rfl (by kernel_rfl) (by kernel_rfl) (by kernel_rfl) #[true, true, true, true, true, true, false, true, true, false, false, true, true, true, true, true, true, true, true, false, false] (by kernel_rfl) rfl (y_load Tryd.isAgg55 rfl (cell_box 0 rfl rfl)) rfl rfl rfl (weak_room 5 rfl rfl) (listed' := #[true, false, false, true, true, true, true, false, false, false, false, false, false, false, false, false, false, false, false, false, false]) rfl ?_
          refine ge_take 7 (TK := [box bg _, rowl _ _ _ _ _ _, rowl _ _ _ _ _ _, rowl _ _ _ _ _ _, fr, room b6 47 4]) rfl (by kernel_rfl) (by kernel_rfl) (by kernel_rfl) #[true, true, true, true, true, true, true, false, false, false, false, true, true, true, true, true, true, true, true, false, false] (by kernel_rfl) rfl (y_move (v := .int _ _) rfl) rfl rfl rfl (weak_room 5 rfl rfl) (listed' := #[true, false, false, true, true, true, true, true, false, false, false, false, false, false, false, false, false, false, false, false, false]) rfl ?_
          refine ge_take 8 (TK := [box bg _, rowl _ _ _ _ _ _, rowl _ _ _ _ _ _, rowl _ _ _ _ _ _, fr, room b6 47 4]) rfl (by kernel_rfl) (by kernel_rfl) (by kernel_rfl) #[true, true, true, true, true, true, true, true, false, false, false, true, true, true, true, true, true, true, true, false, false] (by kernel_rfl) rfl (y_sub rfl rfl ⟨by omega, by omega⟩) rfl rfl rfl (weak_room 5 rfl rfl) (listed' := #[true, false, false, true, true, true, true, true, true, false, false, false, false, false, false, false, false, false, false, false, false]) rfl ?_
          refine ge_take 9 (TK := [box bg _, rowl _ _ _ _ _ _, rowl _ _ _ _ _ _, rowl _ _ _ _ _ _, fr, room b6 47 4]) rfl (by kernel_rfl) (by kernel_rfl) (by kernel_rfl) #[true, true, true, true, true, true, true, true, true, false, false, true, true, true, true, true, true, true, true, false, false] (by kernel_rfl) rfl (y_indexAddr (m := ω2.length) Tryd.underlying55 Tryd.sizeOf3 rfl rfl (by omega) (by omega) (by omega)) rfl rfl rfl (weak_room 5 rfl rfl) (listed' := #[true, false, false, true, true, true, true, true, true, true, false, false, false, false, false, false, false, false, false, false, false]) rfl ?_
          refine ge_take 10 (TK := [box bg _, rowl _ _ _ _ _ _, rowl _ _ _ _ _ _, rowl _ _ _ _ _ _, fr, room b6 47 4]) rfl (by kernel_rfl) (by kernel_rfl) (by kernel_rfl) #[true, true, true, true, true, true, true, true, true, true, false, true, true, true, true, true, true, true, true, false, false] (by kernel_rfl) rfl (y_load Tryd.isAgg3 rfl (cells_rowl 2 (f := intCells) (l := opsOf (b :: a :: ω2)) rfl rfl (fun _ => rfl) (ops_second a b ω2) 0 _ rfl)) rfl rfl rfl (weak_room 5 rfl rfl) (listed' := #[true, false, false, true, true, true, true, true, true, true, true, false, false, false, false, false, false, false, false, false, false]) rfl ?_
          refine ge_take 11 (TK := [box bg _, rowl _ _ _ _ _ _, rowl _ _ _ _ _ _, rowl _ _ _ _ _ _, fr, room b6 47 4]) rfl (by kernel_rfl) (by kernel_rfl) (by kernel_rfl) #[true, true, true, true, true, true, true, true, true, true, true, false, false, false, false, true, true, false, false, false, false] (by kernel_rfl) rfl (y_move (v := .pointer (some ⟨bg, 0, none⟩)) rfl) rfl rfl rfl (weak_room 5 rfl rfl) (listed' := #[true, false, false, true, true, true, true, true, true, true, true, true, false, false, false, false, false, false, false, false, false]) rfl ?_
          refine ge_take 12 (TK := [box bg _, rowl _ _ _ _ _ _, rowl _ _ _ _ _ _, rowl _ _ _ _ _ _, fr, room b6 47 4]) rfl (by kernel_rfl) (by kernel_rfl) (by kernel_rfl) #[true, true, true, true, true, true, true, true, true, true, true, true, false, false, false, true, true, false, false, false, false] (by kernel_rfl) rfl (y_nilCheck rfl) rfl rfl rfl (weak_room 5 rfl rfl) (listed' := #[true, false, false, true, true, true, true, true, true, true, true, true, true, false, false, false, false, false, false, false, false]) rfl ?_
          refine ge_take 13 (TK := [box bg _, rowl _ _ _ _ _ _, rowl _ _ _ _ _ _, rowl _ _ _ _ _ _, fr, room b6 47 4]) rfl (by kernel_rfl) (by kernel_rfl) (by kernel_rfl) #[true, true, true, true, true, true, true, true, true, true, true, true, true, false, false, true, true, false, false, false, false] (by kernel_rfl) rfl (y_fieldAddr_box fa69_1 rfl) rfl rfl rfl (weak_room 5 rfl rfl) (listed' := #[true, false, false, true, true, true, true, true, true, true, true, true, true, true, false, false, false, false, false, false, false]) rfl ?_
          refine ge_take 14 (TK := [box bg _, rowl _ _ _ _ _ _, rowl _ _ _ _ _ _, rowl _ _ _ _ _ _, fr, room b6 47 4]) rfl (by kernel_rfl) (by kernel_rfl) (by kernel_rfl) #[true, true, true, true, true, true, true, true, true, true, true, true, true, true, false, true, true, false, false, false, false] (by kernel_rfl) rfl (y_load Tryd.isAgg55 rfl (cell_box 0 rfl rfl)) rfl rfl rfl (weak_room 5 rfl rfl) (listed' := #[true, false, false, true, true, true, true, true, true, true, true, true, true, true, true, false, false, false, false, false, false]) rfl ?_
          refine ge_take 15 (TK := [box bg _, rowl _ _ _ _ _ _, rowl _ _ _ _ _ _, rowl _ _ _ _ _ _, fr, room b6 47 4]) rfl (by kernel_rfl) (by kernel_rfl) (by kernel_rfl) #[true, true, true, true, true, true, true, true, true, true, true, true, true, true, true, false, false, false, false, false, false] (by kernel_rfl) rfl (y_move (v := .int _ _) rfl) rfl rfl rfl (weak_room 5 rfl rfl) (listed' := #[true, false, false, true, true, true, true, true, true, true, true, true, true, true, true, true, false, false, false, false, false]) rfl ?_
          refine ge_take 16 (TK := [box bg _, rowl _ _ _ _ _ _, rowl _ _ _ _ _ _, rowl _ _ _ _ _ _, fr, room b6 47 4]) rfl (by kernel_rfl) (by kernel_rfl) (by kernel_rfl) #[true, true, true, true, true, true, true, true, true, true, true, true, true, true, true, true, false, false, false, false, false] (by kernel_rfl) rfl (y_sub rfl rfl ⟨by omega, by omega⟩) rfl rfl rfl (weak_room 5 rfl rfl) (listed' := #[true, false, false, true, true, true, true, true, true, true, true, true, true, true, true, true, true, false, false, false, false]) rfl ?_
          refine ge_take 17 (TK := [box bg _, rowl _ _ _ _ _ _, rowl _ _ _ _ _ _, rowl _ _ _ _ _ _, fr, room b6 47 4]) rfl (by kernel_rfl) (by kernel_rfl) (by kernel_rfl) #[true, true, true, true, true, true, true, true, true, true, true, true, true, true, true, true, true, false, false, false, false] (by kernel_rfl) rfl (y_indexAddr (m := ω2.length + 1) Tryd.underlying55 Tryd.sizeOf3 rfl rfl (by omega) (by omega) (by omega)) rfl rfl rfl (weak_room 5 rfl rfl) (listed' := #[true, false, false, true, true, true, true, true, true, true, true, true, true, true, true, true, true, true, false, false, false]) rfl ?_
          refine ge_take 18 (TK := [box bg _, rowl _ _ _ _ _ _, rowl _ _ _ _ _ _, rowl _ _ _ _ _ _, fr, room b6 47 4]) rfl (by kernel_rfl) (by kernel_rfl) (by kernel_rfl) #[true, true, true, true, true, true, true, true, true, true, true, true, true, true, true, true, true, true, false, false, false] (by kernel_rfl) rfl (y_load Tryd.isAgg3 rfl (cells_rowl 2 (f := intCells) (l := opsOf (b :: a :: ω2)) rfl rfl (fun _ => rfl) (ops_last b (a :: ω2)) 0 _ rfl)) rfl rfl rfl (weak_room 5 rfl rfl) (listed' := #[true, false, false, true, true, true, true, true, true, true, true, true, true, true, true, true, true, true, true, false, false]) rfl ?_
          refine ge_one 1 (k' := 0) (listed' := #[true, true, false, true, true, true, true, true, true, true, true, true, true, true, true, true, true, true, true, false, false]) (by kernel_rfl) rfl rfl rfl ?_
          refine gop_pure (e_call (vs := [.string _]) Tryd.func38 rfl (by kernel_rfl) rfl) (fun w hM => refRank_any w s) rfl rfl rfl ?_
          refine gops_nil ?_
          refine ge_fin (TK := [box bg _, rowl _ _ _ _ _ _, rowl _ _ _ _ _ _, rowl _ _ _ _ _ _, fr, room b6 47 4]) rfl (weak_room 5 rfl rfl) ?_
          refine ge_take 2 (TK := [box bg _, rowl _ _ _ _ _ _, rowl _ _ _ _ _ _, rowl _ _ _ _ _ _, fr, room b6 47 4]) rfl (by kernel_rfl) (by kernel_rfl) (by kernel_rfl) #[true, true, false, true, true, true, true, true, true, true, true, true, true, true, true, true, true, true, true, false, false] (by kernel_rfl) rfl (y_sub rfl rfl ⟨by omega, by omega⟩) rfl rfl rfl (weak_room 5 rfl rfl) (listed' := #[true, true, true, true, true, true, true, true, true, true, true, true, true, true, true, true, true, true, true, false, false]) rfl ?_
          refine ge_take 19 (TK := [box bg _, rowl _ _ _ _ _ _, rowl _ _ _ _ _ _, rowl _ _ _ _ _ _, fr, room b6 47 4]) rfl (by kernel_rfl) (by kernel_rfl) (by kernel_rfl) #[true, true, true, true, true, true, true, true, true, true, true, true, true, true, true, true, true, true, true, false, false] (by kernel_rfl) rfl (y_build (vs := [(0, .int _ _), (2, .int _ _), (3, .int _ _)]) (cells := #[_, .int .i64 0, _, _]) rfl (bd47_0_2_3 _ _ _)) rfl rfl rfl (weak_room 5 rfl rfl) (listed' := #[true, true, true, true, true, true, true, true, true, true, true, true, true, true, true, true, true, true, true, true, false]) rfl ?_
          refine ge_one 20 (k' := 0) (listed' := #[true, true, true, true, true, true, true, true, true, true, true, true, true, true, true, true, true, true, true, true, true]) (by kernel_rfl) rfl rfl rfl ?_
          refine gop_store 5 (v := .agg #[_, _, _, _]) (cs' := #[_, _, _, _]) rfl rfl Tryd.sizeOf47 rfl rfl rfl rfl (Nat.le_of_ble_eq_true rfl) rfl rfl ?_
          refine gops_nil ?_
          refine ge_fin (TK := [box bg _, rowl _ _ _ _ _ _, rowl _ _ _ _ _ _, rowl _ _ _ _ _ _, fr, room b6 47 4]) rfl (weak_room 5 rfl rfl) ?_
          refine ge_done (by kernel_rfl) ?_
          refine hN9 _ _ ?_
          refine gT [box bg _, rowl _ _ _ _ _ _, rowl _ _ _ _ _ _, rowl _ _ _ _ _ _, fr, box b6 _] rfl ?_
          refine gfrom [(0, .pointer (some ⟨bg, 0, none⟩)), (1, .int _ _), (5, .int _ _), (6, .pointer _)] ⟨rfl, rfl, rfl, rfl, trivial⟩ fun σ => ?_
          refine greg ?_
          refine gop (y_move (v := .int _ _) rfl) rfl rfl rfl ?_
          refine gop (y_sub rfl rfl ⟨by omega, by omega⟩) rfl rfl rfl ?_
          refine gop (y_assign (v := .int _ _) rfl) rfl rfl rfl ?_
          refine gops_nil ?_
          refine hN7 _ _ ?_
          refine gfrom [(0, .pointer (some ⟨bg, 0, none⟩)), (1, .int _ _), (5, .int _ _), (6, .pointer _)] ⟨rfl, rfl, rfl, rfl, trivial⟩ fun σ => ?_
          refine gseq fun N10 hN10 => ?_
          refine greg_e1 [17] [(2, emp)] (by kernel_rfl) ?_
          refine ge_take 0 (TK := [box bg _, rowl _ _ _ _ _ _, emp, rowl _ _ _ _ _ _, fr, box b6 _]) rfl (by kernel_rfl) (by kernel_rfl) (by kernel_rfl) #[false, true, true, true, true, true, true, true, true, true, true, true, true, true, true, false, false, false] (by kernel_rfl) rfl (y_move (v := .pointer (some ⟨bg, 0, none⟩)) rfl) rfl rfl rfl (weak_emp 2 rfl) (listed' := #[true, false, false, false, false, false, false, false, false, false, false, false, false, false, false, false, false, false]) rfl ?_
          refine ge_take 1 (TK := [box bg _, rowl _ _ _ _ _ _, emp, rowl _ _ _ _ _ _, fr, box b6 _]) rfl (by kernel_rfl) (by kernel_rfl) (by kernel_rfl) #[true, false, false, false, false, true, true, false, true, true, true, true, true, true, false, false, false, false] (by kernel_rfl) rfl (y_move (v := .pointer (some ⟨bg, 0, none⟩)) rfl) rfl rfl rfl (weak_emp 2 rfl) (listed' := #[true, true, false, false, false, false, false, false, false, false, false, false, false, false, false, false, false, false]) rfl ?_
          refine ge_take 2 (TK := [box bg _, rowl _ _ _ _ _ _, emp, rowl _ _ _ _ _ _, fr, box b6 _]) rfl (by kernel_rfl) (by kernel_rfl) (by kernel_rfl) #[true, true, false, false, false, true, true, false, true, true, true, true, true, true, false, false, false, false] (by kernel_rfl) rfl (y_nilCheck rfl) rfl rfl rfl (weak_emp 2 rfl) (listed' := #[true, true, true, false, false, false, false, false, false, false, false, false, false, false, false, false, false, false]) rfl ?_
          refine ge_take 3 (TK := [box bg _, rowl _ _ _ _ _ _, emp, rowl _ _ _ _ _ _, fr, box b6 _]) rfl (by kernel_rfl) (by kernel_rfl) (by kernel_rfl) #[true, true, true, false, false, true, true, false, true, true, true, true, true, true, false, false, false, false] (by kernel_rfl) rfl (y_fieldAddr_box fa69_1 rfl) rfl rfl rfl (weak_emp 2 rfl) (listed' := #[true, true, true, true, false, false, false, false, false, false, false, false, false, false, false, false, false, false]) rfl ?_
          refine ge_take 4 (TK := [box bg _, rowl _ _ _ _ _ _, emp, rowl _ _ _ _ _ _, fr, box b6 _]) rfl (by kernel_rfl) (by kernel_rfl) (by kernel_rfl) #[true, true, true, true, false, true, true, false, true, true, true, true, true, true, false, false, false, false] (by kernel_rfl) rfl (y_load Tryd.isAgg55 rfl (cell_box 0 rfl rfl)) rfl rfl rfl (weak_emp 2 rfl) (listed' := #[true, true, true, true, true, false, false, false, false, false, false, false, false, false, false, false, false, false]) rfl ?_
          refine ge_take 5 (TK := [box bg _, rowl _ _ _ _ _ _, emp, rowl _ _ _ _ _ _, fr, box b6 _]) rfl (by kernel_rfl) (by kernel_rfl) (by kernel_rfl) #[true, true, true, true, true, false, false, false, true, true, true, true, true, true, false, false, false, false] (by kernel_rfl) rfl (y_move (v := .int _ _) rfl) rfl rfl rfl (weak_emp 2 rfl) (listed' := #[true, true, true, true, true, true, false, false, false, false, false, false, false, false, false, false, false, false]) rfl ?_
          refine ge_take 6 (TK := [box bg _, rowl _ _ _ _ _ _, emp, rowl _ _ _ _ _ _, fr, box b6 _]) rfl (by kernel_rfl) (by kernel_rfl) (by kernel_rfl) #[true, true, true, true, true, true, false, false, true, true, true, true, true, true, false, false, false, false] (by kernel_rfl) rfl (y_sub rfl rfl ⟨by omega, by omega⟩) rfl rfl rfl (weak_emp 2 rfl) (listed' := #[true, true, true, true, true, true, true, false, false, false, false, false, false, false, false, false, false, false]) rfl ?_
          refine ge_take 7 (TK := [box bg _, rowl _ _ _ _ _ _, emp, rowl _ _ _ _ _ _, fr, box b6 _]) rfl (by kernel_rfl) (by kernel_rfl) (by kernel_rfl) #[true, true, true, true, true, true, true, false, true, true, true, true, true, true, false, false, false, false] (by kernel_rfl) rfl (y_trunc0 (m := (opsOf ω2).length) hf2 Tryd.underlying55 Tryd.sizeOf3 rfl rfl (by omega) (by omega) (by omega)) rfl rfl rfl (weak_emp 2 rfl) (listed' := #[true, true, true, true, true, true, true, true, false, false, false, false, false, false, false, false, false, false]) rfl ?_
          refine ghe_mem _ (weak_trunc0 2 (f := intCells) (l := opsOf ω2) (m := [(((nodesOf ω2).length + a.size : Nat) : Int) - 1, (((nodesOf (a :: ω2)).length + b.size : Nat) : Int) - 1]) hf2 (by rw [← hops]; rfl) (fun _ => rfl)) ?_
          refine ge_take 8 (TK := [box bg _, rowl _ _ _ _ _ _, emp, rowl _ _ _ _ _ _, fr, box b6 _]) rfl (by kernel_rfl) (by kernel_rfl) (by kernel_rfl) #[true, true, true, true, true, true, true, true, false, false, false, false, false, false, false, false, false, false] (by kernel_rfl) rfl (y_move (v := .pointer (some ⟨bg, 0, none⟩)) rfl) rfl rfl rfl (weak_emp 2 rfl) (listed' := #[true, true, true, true, true, true, true, true, true, false, false, false, false, false, false, false, false, false]) rfl ?_
          refine ge_take 9 (TK := [box bg _, rowl _ _ _ _ _ _, emp, rowl _ _ _ _ _ _, fr, box b6 _]) rfl (by kernel_rfl) (by kernel_rfl) (by kernel_rfl) #[true, true, true, true, true, true, true, true, true, false, false, false, false, false, false, false, false, false] (by kernel_rfl) rfl (y_nilCheck rfl) rfl rfl rfl (weak_emp 2 rfl) (listed' := #[true, true, true, true, true, true, true, true, true, true, false, false, false, false, false, false, false, false]) rfl ?_
          refine ge_take 10 (TK := [box bg _, rowl _ _ _ _ _ _, emp, rowl _ _ _ _ _ _, fr, box b6 _]) rfl (by kernel_rfl) (by kernel_rfl) (by kernel_rfl) #[true, true, true, true, true, true, true, true, true, true, false, false, false, false, false, false, false, false] (by kernel_rfl) rfl (y_fieldAddr_box fa69_0 rfl) rfl rfl rfl (weak_emp 2 rfl) (listed' := #[true, true, true, true, true, true, true, true, true, true, true, false, false, false, false, false, false, false]) rfl ?_
          refine ge_take 11 (TK := [box bg _, rowl _ _ _ _ _ _, emp, rowl _ _ _ _ _ _, fr, box b6 _]) rfl (by kernel_rfl) (by kernel_rfl) (by kernel_rfl) #[true, true, true, true, true, true, true, true, true, true, true, false, false, false, false, false, false, false] (by kernel_rfl) rfl (y_load Tryd.isAgg22 rfl (cell_box 0 rfl rfl)) rfl rfl rfl (weak_emp 2 rfl) (listed' := #[true, true, true, true, true, true, true, true, true, true, true, true, false, false, false, false, false, false]) rfl ?_
          refine ge_take 12 (TK := [box bg _, rowl _ _ _ _ _ _, emp, rowl _ _ _ _ _ _, fr, box b6 _]) rfl (by kernel_rfl) (by kernel_rfl) (by kernel_rfl) #[true, true, true, true, true, true, true, true, true, true, true, true, false, false, false, false, false, false] (by kernel_rfl) rfl (y_len Tryd.underlying22 rfl) rfl rfl rfl (weak_emp 2 rfl) (listed' := #[true, true, true, true, true, true, true, true, true, true, true, true, true, false, false, false, false, false]) rfl ?_
          refine ge_one 13 (k' := 0) (listed' := #[true, true, true, true, true, true, true, true, true, true, true, true, true, true, false, false, false, false]) (by kernel_rfl) rfl rfl rfl ?_
          refine gop_lit (vs := [.int _ _]) (cells := #[_]) Tryd.underlying55 Tryd.sizeOf3 Tryd.zeroValue3 rfl (by decide) (by decide) rfl rfl rfl rfl (fun b107 hb107 => ?_)
          refine gops_nil ?_
          refine ge_fin (TK := [box bg _, rowl _ _ _ _ _ _, emp, rowl _ _ _ _ _ _, fr, box b6 _]) rfl (weak_trans (weak_take (T' := [box bg _, rowl _ _ _ _ _ _, rowl _ _ _ _ _ _, rowl _ _ _ _ _ _, fr, box b6 _]) rfl) (weak_emp 2 rfl)) ?_
          refine ge_one 14 (k' := 0) (listed' := #[true, true, true, true, true, true, true, true, true, true, true, true, true, true, true, false, false, false]) (by kernel_rfl) rfl rfl rfl ?_
          refine gop_append 2 (f := intCells) (l2 := [((nodesOf (b :: a :: ω2)).length : Int)]) Tryd.underlying55 el3 wide_int (v := .slice (some ⟨g2, 0, none⟩) _ d2) rfl rfl rfl rfl (fun h => by cases h) (by simp [maxLen]; omega) (by simp; omega) (src_box 6 rfl rfl) rfl (fun v108 => ?_)
          refine gops_fact (fun w hM => own_form (hM.own 2 rfl)) ?_
          rintro ⟨A108, c108, rfl, hc108, hm108⟩
          refine gops_nil ?_
          refine ge_fin (TK := [box bg _, rowl _ _ _ _ _ _, emp, rowl _ _ _ _ _ _, fr, box b6 _]) rfl (weak_trans (weak_take (T' := [box bg _, rowl _ _ _ _ _ _, rowl _ _ _ _ _ _, rowl _ _ _ _ _ _, fr, box b6 _]) rfl) (weak_emp 2 rfl)) ?_
          refine ge_take 15 (TK := [box bg _, rowl _ _ _ _ _ _, emp, rowl _ _ _ _ _ _, fr, box b6 _]) rfl (by kernel_rfl) (by kernel_rfl) (by kernel_rfl) #[true, true, true, true, true, true, true, true, true, true, true, true, true, true, true, false, false, false] (by kernel_rfl) rfl (y_nilCheck rfl) rfl rfl rfl (weak_trans (weak_take (T' := [box bg _, rowl _ _ _ _ _ _, rowl _ _ _ _ _ _, rowl _ _ _ _ _ _, fr, box b6 _]) rfl) (weak_emp 2 rfl)) (listed' := #[true, true, true, true, true, true, true, true, true, true, true, true, true, true, true, true, false, false]) rfl ?_
          refine ge_take 16 (TK := [box bg _, rowl _ _ _ _ _ _, emp, rowl _ _ _ _ _ _, fr, box b6 _]) rfl (by kernel_rfl) (by kernel_rfl) (by kernel_rfl) #[true, true, true, true, true, true, true, true, true, true, true, true, true, true, true, true, false, false] (by kernel_rfl) rfl (y_fieldAddr_box fa69_1 rfl) rfl rfl rfl (weak_trans (weak_take (T' := [box bg _, rowl _ _ _ _ _ _, rowl _ _ _ _ _ _, rowl _ _ _ _ _ _, fr, box b6 _]) rfl) (weak_emp 2 rfl)) (listed' := #[true, true, true, true, true, true, true, true, true, true, true, true, true, true, true, true, true, false]) rfl ?_
          refine ge_one 17 (k' := 1) (listed' := #[true, true, true, true, true, true, true, true, true, true, true, true, true, true, true, true, true, true]) (by kernel_rfl) rfl rfl rfl ?_
          refine gop_store 0 (v := .slice A108 _ c108) (cs' := #[_, _, _]) rfl rfl Tryd.sizeOf55 rfl rfl rfl rfl (Nat.le_of_ble_eq_true rfl) rfl rfl ?_
          refine gops_nil ?_
          refine ge_fin (TK := []) rfl (weak_nil) ?_
          refine ge_done (by kernel_rfl) ?_
          refine hN10 _ _ ?_
          refine gT [box bg _, rowl _ _ _ _ _ _, rowl _ _ _ _ _ _, rowl _ _ _ _ _ _, fr, box b6 _, box b107 _] rfl ?_
          refine gfrom [(0, .pointer (some ⟨bg, 0, none⟩)), (1, .int _ _), (6, .pointer _)] ⟨rfl, rfl, rfl, trivial⟩ fun σ => ?_
          refine greg_e1 [10] [(1, emp)] (by kernel_rfl) ?_
          refine ge_take 0 (TK := [box bg _, emp, rowl _ _ _ _ _ _, rowl _ _ _ _ _ _, fr, box b6 _, box b107 _]) rfl (by kernel_rfl) (by kernel_rfl) (by kernel_rfl) #[false, true, true, true, true, true, true, true, false, false, false] (by kernel_rfl) rfl (y_move (v := .pointer (some ⟨bg, 0, none⟩)) rfl) rfl rfl rfl (weak_emp 1 rfl) (listed' := #[true, false, false, false, false, false, false, false, false, false, false]) rfl ?_
          refine ge_take 1 (TK := [box bg _, emp, rowl _ _ _ _ _ _, rowl _ _ _ _ _ _, fr, box b6 _, box b107 _]) rfl (by kernel_rfl) (by kernel_rfl) (by kernel_rfl) #[true, false, false, false, false, true, true, false, false, false, false] (by kernel_rfl) rfl (y_move (v := .pointer (some ⟨bg, 0, none⟩)) rfl) rfl rfl rfl (weak_emp 1 rfl) (listed' := #[true, true, false, false, false, false, false, false, false, false, false]) rfl ?_
          refine ge_take 2 (TK := [box bg _, emp, rowl _ _ _ _ _ _, rowl _ _ _ _ _ _, fr, box b6 _, box b107 _]) rfl (by kernel_rfl) (by kernel_rfl) (by kernel_rfl) #[true, true, false, false, false, true, true, false, false, false, false] (by kernel_rfl) rfl (y_nilCheck rfl) rfl rfl rfl (weak_emp 1 rfl) (listed' := #[true, true, true, false, false, false, false, false, false, false, false]) rfl ?_
          refine ge_take 3 (TK := [box bg _, emp, rowl _ _ _ _ _ _, rowl _ _ _ _ _ _, fr, box b6 _, box b107 _]) rfl (by kernel_rfl) (by kernel_rfl) (by kernel_rfl) #[true, true, true, false, false, true, true, false, false, false, false] (by kernel_rfl) rfl (y_fieldAddr_box fa69_0 rfl) rfl rfl rfl (weak_emp 1 rfl) (listed' := #[true, true, true, true, false, false, false, false, false, false, false]) rfl ?_
          refine ge_take 4 (TK := [box bg _, emp, rowl _ _ _ _ _ _, rowl _ _ _ _ _ _, fr, box b6 _, box b107 _]) rfl (by kernel_rfl) (by kernel_rfl) (by kernel_rfl) #[true, true, true, true, false, true, true, false, false, false, false] (by kernel_rfl) rfl (y_load Tryd.isAgg22 rfl (cell_box 0 rfl rfl)) rfl rfl rfl (weak_emp 1 rfl) (listed' := #[true, true, true, true, true, false, false, false, false, false, false]) rfl ?_
          refine ge_take 5 (TK := [box bg _, emp, rowl _ _ _ _ _ _, rowl _ _ _ _ _ _, fr, box b6 _, box b107 _]) rfl (by kernel_rfl) (by kernel_rfl) (by kernel_rfl) #[true, true, true, true, true, false, false, false, false, false, false] (by kernel_rfl) rfl (y_loads (cs := [_, _, _, _]) Tryd.isAgg47 Tryd.sizeOf47 rfl rfl (cells_box 5 rfl)) rfl rfl rfl (weak_emp 1 rfl) (listed' := #[true, true, true, true, true, true, false, false, false, false, false]) rfl ?_
          refine ge_one 6 (k' := 0) (listed' := #[true, true, true, true, true, true, true, false, false, false, false]) (by kernel_rfl) rfl rfl rfl ?_
          refine gop_lit (vs := [.agg #[_, _, _, _]]) (cells := #[_, _, _, _]) Tryd.underlying22 Tryd.sizeOf47 Tryd.zeroValue47 rfl (by decide) (by decide) rfl rfl rfl rfl (fun b117 hb117 => ?_)
          refine gops_nil ?_
          refine ge_fin (TK := [box bg _, emp, rowl _ _ _ _ _ _, rowl _ _ _ _ _ _, fr, box b6 _, box b107 _]) rfl (weak_trans (weak_take (T' := [box bg _, rowl _ _ _ _ _ _, rowl _ _ _ _ _ _, rowl _ _ _ _ _ _, fr, box b6 _, box b107 _]) rfl) (weak_emp 1 rfl)) ?_
          refine ge_one 7 (k' := 0) (listed' := #[true, true, true, true, true, true, true, true, false, false, false]) (by kernel_rfl) rfl rfl rfl ?_
          refine gop_append 1 (f := pnCells) (l2 := [(⟨8 - (rankW s : Int), 0, (((nodesOf ω2).length + a.size : Nat) : Int) - 1, (((nodesOf (a :: ω2)).length + b.size : Nat) : Int) - 1⟩ : PN)]) Tryd.underlying22 el47 wide_pn (v := .slice _ _ _) rfl rfl rfl rfl (fun h => by cases h) (by simp [maxLen]; omega) (by simp; omega) (src_box 7 rfl rfl) rfl (fun v118 => ?_)
          refine gops_fact (fun w hM => own_form (hM.own 1 rfl)) ?_
          rintro ⟨A118, c118, rfl, hc118, hm118⟩
          refine gops_nil ?_
          refine ge_fin (TK := [box bg _, emp, rowl _ _ _ _ _ _, rowl _ _ _ _ _ _, fr, box b6 _, box b107 _]) rfl (weak_trans (weak_take (T' := [box bg _, rowl _ _ _ _ _ _, rowl _ _ _ _ _ _, rowl _ _ _ _ _ _, fr, box b6 _, box b107 _]) rfl) (weak_emp 1 rfl)) ?_
          refine ge_take 8 (TK := [box bg _, emp, rowl _ _ _ _ _ _, rowl _ _ _ _ _ _, fr, box b6 _, box b107 _]) rfl (by kernel_rfl) (by kernel_rfl) (by kernel_rfl) #[true, true, true, true, true, true, true, true, false, false, false] (by kernel_rfl) rfl (y_nilCheck rfl) rfl rfl rfl (weak_trans (weak_take (T' := [box bg _, rowl _ _ _ _ _ _, rowl _ _ _ _ _ _, rowl _ _ _ _ _ _, fr, box b6 _, box b107 _]) rfl) (weak_emp 1 rfl)) (listed' := #[true, true, true, true, true, true, true, true, true, false, false]) rfl ?_
          refine ge_take 9 (TK := [box bg _, emp, rowl _ _ _ _ _ _, rowl _ _ _ _ _ _, fr, box b6 _, box b107 _]) rfl (by kernel_rfl) (by kernel_rfl) (by kernel_rfl) #[true, true, true, true, true, true, true, true, true, false, false] (by kernel_rfl) rfl (y_fieldAddr_box fa69_0 rfl) rfl rfl rfl (weak_trans (weak_take (T' := [box bg _, rowl _ _ _ _ _ _, rowl _ _ _ _ _ _, rowl _ _ _ _ _ _, fr, box b6 _, box b107 _]) rfl) (weak_emp 1 rfl)) (listed' := #[true, true, true, true, true, true, true, true, true, true, false]) rfl ?_
          refine ge_one 10 (k' := 1) (listed' := #[true, true, true, true, true, true, true, true, true, true, true]) (by kernel_rfl) rfl rfl rfl ?_
          refine gop_store 0 (v := .slice A118 _ c118) (cs' := #[_, _, _]) rfl rfl Tryd.sizeOf22 rfl rfl rfl rfl (Nat.le_of_ble_eq_true rfl) rfl rfl ?_
          refine gops_nil ?_
          refine ge_fin (TK := []) rfl (weak_nil) ?_
          refine ge_done (by kernel_rfl) ?_
          rw [← hpN, ← hpO]
          refine gnext2 ((.bin (8 - (rankW s : Int)) a b :: ω2, sq, A118, c118, A108, c108, some ⟨g3, 0, none⟩, d3)) (by show sq.length < (s :: sq).length; simp) (⟨by rw [← hred2]; exact hred, by rw [hbb] at hbn; simp at hbn ⊢; omega, by rw [htot]; simp at htt ⊢; omega⟩) trivial ⟨rfl, rfl, trivial⟩ ⟨_, rfl⟩
        · 
          have hsn : s = wNot := by
            have h9 := hc71
            rw [strEq_dec] at h9
            simpa using h9
          have hbb : bins (s :: sq) = bins sq := by rw [bins, if_pos (.inl hsn), Nat.zero_add]
          obtain ⟨hpN, hpO⟩ := push_negN b ω1
          have hred2 : redW low (s :: sq) (b :: ω1) = redW low sq (.neg b :: ω1) := red_up hrk (by rw [hsn]; exact top_not b ω1)
          have hops := ops_push b ω1
          have htot : total (Tr.neg b :: ω1) = total (b :: ω1) + 1 := by simp only [total, size_neg]; omega
          refine gskip ?_
          refine hN7 _ _ ?_
          refine gfrom [(0, .pointer (some ⟨bg, 0, none⟩)), (1, .int _ _), (5, .int _ _), (6, .pointer _)] ⟨rfl, rfl, rfl, rfl, trivial⟩ fun σ => ?_
          refine gseq fun N11 hN11 => ?_
          refine greg_e1 [17] [(2, emp)] (by kernel_rfl) ?_
          refine ge_take 0 (TK := [box bg _, rowl _ _ _ _ _ _, emp, rowl _ _ _ _ _ _, fr, box b6 _]) rfl (by kernel_rfl) (by kernel_rfl) (by kernel_rfl) #[false, true, true, true, true, true, true, true, true, true, true, true, true, true, true, false, false, false] (by kernel_rfl) rfl (y_move (v := .pointer (some ⟨bg, 0, none⟩)) rfl) rfl rfl rfl (weak_emp 2 rfl) (listed' := #[true, false, false, false, false, false, false, false, false, false, false, false, false, false, false, false, false, false]) rfl ?_
          refine ge_take 1 (TK := [box bg _, rowl _ _ _ _ _ _, emp, rowl _ _ _ _ _ _, fr, box b6 _]) rfl (by kernel_rfl) (by kernel_rfl) (by kernel_rfl) #[true, false, false, false, false, true, true, false, true, true, true, true, true, true, false, false, false, false] (by kernel_rfl) rfl (y_move (v := .pointer (some ⟨bg, 0, none⟩)) rfl) rfl rfl rfl (weak_emp 2 rfl) (listed' := #[true, true, false, false, false, false, false, false, false, false, false, false, false, false, false, false, false, false]) rfl ?_
          refine ge_take 2 (TK := [box bg _, rowl _ _ _ _ _ _, emp, rowl _ _ _ _ _ _, fr, box b6 _]) rfl (by kernel_rfl) (by kernel_rfl) (by kernel_rfl) #[true, true, false, false, false, true, true, false, true, true, true, true, true, true, false, false, false, false] (by kernel_rfl) rfl (y_nilCheck rfl) rfl rfl rfl (weak_emp 2 rfl) (listed' := #[true, true, true, false, false, false, false, false, false, false, false, false, false, false, false, false, false, false]) rfl ?_
          refine ge_take 3 (TK := [box bg _, rowl _ _ _ _ _ _, emp, rowl _ _ _ _ _ _, fr, box b6 _]) rfl (by kernel_rfl) (by kernel_rfl) (by kernel_rfl) #[true, true, true, false, false, true, true, false, true, true, true, true, true, true, false, false, false, false] (by kernel_rfl) rfl (y_fieldAddr_box fa69_1 rfl) rfl rfl rfl (weak_emp 2 rfl) (listed' := #[true, true, true, true, false, false, false, false, false, false, false, false, false, false, false, false, false, false]) rfl ?_
          refine ge_take 4 (TK := [box bg _, rowl _ _ _ _ _ _, emp, rowl _ _ _ _ _ _, fr, box b6 _]) rfl (by kernel_rfl) (by kernel_rfl) (by kernel_rfl) #[true, true, true, true, false, true, true, false, true, true, true, true, true, true, false, false, false, false] (by kernel_rfl) rfl (y_load Tryd.isAgg55 rfl (cell_box 0 rfl rfl)) rfl rfl rfl (weak_emp 2 rfl) (listed' := #[true, true, true, true, true, false, false, false, false, false, false, false, false, false, false, false, false, false]) rfl ?_
          refine ge_take 5 (TK := [box bg _, rowl _ _ _ _ _ _, emp, rowl _ _ _ _ _ _, fr, box b6 _]) rfl (by kernel_rfl) (by kernel_rfl) (by kernel_rfl) #[true, true, true, true, true, false, false, false, true, true, true, true, true, true, false, false, false, false] (by kernel_rfl) rfl (y_move (v := .int _ _) rfl) rfl rfl rfl (weak_emp 2 rfl) (listed' := #[true, true, true, true, true, true, false, false, false, false, false, false, false, false, false, false, false, false]) rfl ?_
          refine ge_take 6 (TK := [box bg _, rowl _ _ _ _ _ _, emp, rowl _ _ _ _ _ _, fr, box b6 _]) rfl (by kernel_rfl) (by kernel_rfl) (by kernel_rfl) #[true, true, true, true, true, true, false, false, true, true, true, true, true, true, false, false, false, false] (by kernel_rfl) rfl (y_sub rfl rfl ⟨by omega, by omega⟩) rfl rfl rfl (weak_emp 2 rfl) (listed' := #[true, true, true, true, true, true, true, false, false, false, false, false, false, false, false, false, false, false]) rfl ?_
          refine ge_take 7 (TK := [box bg _, rowl _ _ _ _ _ _, emp, rowl _ _ _ _ _ _, fr, box b6 _]) rfl (by kernel_rfl) (by kernel_rfl) (by kernel_rfl) #[true, true, true, true, true, true, true, false, true, true, true, true, true, true, false, false, false, false] (by kernel_rfl) rfl (y_trunc0 (m := (opsOf ω1).length) hf2 Tryd.underlying55 Tryd.sizeOf3 rfl rfl (by omega) (by omega) (by omega)) rfl rfl rfl (weak_emp 2 rfl) (listed' := #[true, true, true, true, true, true, true, true, false, false, false, false, false, false, false, false, false, false]) rfl ?_
          refine ghe_mem _ (weak_trunc0 2 (f := intCells) (l := opsOf ω1) (m := [(((nodesOf ω1).length + b.size : Nat) : Int) - 1]) hf2 (by rw [← hops]; rfl) (fun _ => rfl)) ?_
          refine ge_take 8 (TK := [box bg _, rowl _ _ _ _ _ _, emp, rowl _ _ _ _ _ _, fr, box b6 _]) rfl (by kernel_rfl) (by kernel_rfl) (by kernel_rfl) #[true, true, true, true, true, true, true, true, false, false, false, false, false, false, false, false, false, false] (by kernel_rfl) rfl (y_move (v := .pointer (some ⟨bg, 0, none⟩)) rfl) rfl rfl rfl (weak_emp 2 rfl) (listed' := #[true, true, true, true, true, true, true, true, true, false, false, false, false, false, false, false, false, false]) rfl ?_
          refine ge_take 9 (TK := [box bg _, rowl _ _ _ _ _ _, emp, rowl _ _ _ _ _ _, fr, box b6 _]) rfl (by kernel_rfl) (by kernel_rfl) (by kernel_rfl) #[true, true, true, true, true, true, true, true, true, false, false, false, false, false, false, false, false, false] (by kernel_rfl) rfl (y_nilCheck rfl) rfl rfl rfl (weak_emp 2 rfl) (listed' := #[true, true, true, true, true, true, true, true, true, true, false, false, false, false, false, false, false, false]) rfl ?_
          refine ge_take 10 (TK := [box bg _, rowl _ _ _ _ _ _, emp, rowl _ _ _ _ _ _, fr, box b6 _]) rfl (by kernel_rfl) (by kernel_rfl) (by kernel_rfl) #[true, true, true, true, true, true, true, true, true, true, false, false, false, false, false, false, false, false] (by kernel_rfl) rfl (y_fieldAddr_box fa69_0 rfl) rfl rfl rfl (weak_emp 2 rfl) (listed' := #[true, true, true, true, true, true, true, true, true, true, true, false, false, false, false, false, false, false]) rfl ?_
          refine ge_take 11 (TK := [box bg _, rowl _ _ _ _ _ _, emp, rowl _ _ _ _ _ _, fr, box b6 _]) rfl (by kernel_rfl) (by kernel_rfl) (by kernel_rfl) #[true, true, true, true, true, true, true, true, true, true, true, false, false, false, false, false, false, false] (by kernel_rfl) rfl (y_load Tryd.isAgg22 rfl (cell_box 0 rfl rfl)) rfl rfl rfl (weak_emp 2 rfl) (listed' := #[true, true, true, true, true, true, true, true, true, true, true, true, false, false, false, false, false, false]) rfl ?_
          refine ge_take 12 (TK := [box bg _, rowl _ _ _ _ _ _, emp, rowl _ _ _ _ _ _, fr, box b6 _]) rfl (by kernel_rfl) (by kernel_rfl) (by kernel_rfl) #[true, true, true, true, true, true, true, true, true, true, true, true, false, false, false, false, false, false] (by kernel_rfl) rfl (y_len Tryd.underlying22 rfl) rfl rfl rfl (weak_emp 2 rfl) (listed' := #[true, true, true, true, true, true, true, true, true, true, true, true, true, false, false, false, false, false]) rfl ?_
          refine ge_one 13 (k' := 0) (listed' := #[true, true, true, true, true, true, true, true, true, true, true, true, true, true, false, false, false, false]) (by kernel_rfl) rfl rfl rfl ?_
          refine gop_lit (vs := [.int _ _]) (cells := #[_]) Tryd.underlying55 Tryd.sizeOf3 Tryd.zeroValue3 rfl (by decide) (by decide) rfl rfl rfl rfl (fun b107 hb107 => ?_)
          refine gops_nil ?_
          refine ge_fin (TK := [box bg _, rowl _ _ _ _ _ _, emp, rowl _ _ _ _ _ _, fr, box b6 _]) rfl (weak_trans (weak_take (T' := [box bg _, rowl _ _ _ _ _ _, rowl _ _ _ _ _ _, rowl _ _ _ _ _ _, fr, box b6 _]) rfl) (weak_emp 2 rfl)) ?_
          refine ge_one 14 (k' := 0) (listed' := #[true, true, true, true, true, true, true, true, true, true, true, true, true, true, true, false, false, false]) (by kernel_rfl) rfl rfl rfl ?_
          refine gop_append 2 (f := intCells) (l2 := [((nodesOf (b :: ω1)).length : Int)]) Tryd.underlying55 el3 wide_int (v := .slice (some ⟨g2, 0, none⟩) _ d2) rfl rfl rfl rfl (fun h => by cases h) (by simp [maxLen]; omega) (by simp; omega) (src_box 6 rfl rfl) rfl (fun v108 => ?_)
          refine gops_fact (fun w hM => own_form (hM.own 2 rfl)) ?_
          rintro ⟨A108, c108, rfl, hc108, hm108⟩
          refine gops_nil ?_
          refine ge_fin (TK := [box bg _, rowl _ _ _ _ _ _, emp, rowl _ _ _ _ _ _, fr, box b6 _]) rfl (weak_trans (weak_take (T' := [box bg _, rowl _ _ _ _ _ _, rowl _ _ _ _ _ _, rowl _ _ _ _ _ _, fr, box b6 _]) rfl) (weak_emp 2 rfl)) ?_
          refine ge_take 15 (TK := [box bg _, rowl _ _ _ _ _ _, emp, rowl _ _ _ _ _ _, fr, box b6 _]) rfl (by kernel_rfl) (by kernel_rfl) (by kernel_rfl) #[true, true, true, true, true, true, true, true, true, true, true, true, true, true, true, false, false, false] (by kernel_rfl) rfl (y_nilCheck rfl) rfl rfl rfl (weak_trans (weak_take (T' := [box bg _, rowl _ _ _ _ _ _, rowl _ _ _ _ _ _, rowl _ _ _ _ _ _, fr, box b6 _]) rfl) (weak_emp 2 rfl)) (listed' := #[true, true, true, true, true, true, true, true, true, true, true, true, true, true, true, true, false, false]) rfl ?_
          refine ge_take 16 (TK := [box bg _, rowl _ _ _ _ _ _, emp, rowl _ _ _ _ _ _, fr, box b6 _]) rfl (by kernel_rfl) (by kernel_rfl) (by kernel_rfl) #[true, true, true, true, true, true, true, true, true, true, true, true, true, true, true, true, false, false] (by kernel_rfl) rfl (y_fieldAddr_box fa69_1 rfl) rfl rfl rfl (weak_trans (weak_take (T' := [box bg _, rowl _ _ _ _ _ _, rowl _ _ _ _ _ _, rowl _ _ _ _ _ _, fr, box b6 _]) rfl) (weak_emp 2 rfl)) (listed' := #[true, true, true, true, true, true, true, true, true, true, true, true, true, true, true, true, true, false]) rfl ?_
          refine ge_one 17 (k' := 1) (listed' := #[true, true, true, true, true, true, true, true, true, true, true, true, true, true, true, true, true, true]) (by kernel_rfl) rfl rfl rfl ?_
          refine gop_store 0 (v := .slice A108 _ c108) (cs' := #[_, _, _]) rfl rfl Tryd.sizeOf55 rfl rfl rfl rfl (Nat.le_of_ble_eq_true rfl) rfl rfl ?_
          refine gops_nil ?_
          refine ge_fin (TK := []) rfl (weak_nil) ?_
          refine ge_done (by kernel_rfl) ?_
          refine hN11 _ _ ?_
          refine gT [box bg _, rowl _ _ _ _ _ _, rowl _ _ _ _ _ _, rowl _ _ _ _ _ _, fr, box b6 _, box b107 _] rfl ?_
          refine gfrom [(0, .pointer (some ⟨bg, 0, none⟩)), (1, .int _ _), (6, .pointer _)] ⟨rfl, rfl, rfl, trivial⟩ fun σ => ?_
          refine greg_e1 [10] [(1, emp)] (by kernel_rfl) ?_
          refine ge_take 0 (TK := [box bg _, emp, rowl _ _ _ _ _ _, rowl _ _ _ _ _ _, fr, box b6 _, box b107 _]) rfl (by kernel_rfl) (by kernel_rfl) (by kernel_rfl) #[false, true, true, true, true, true, true, true, false, false, false] (by kernel_rfl) rfl (y_move (v := .pointer (some ⟨bg, 0, none⟩)) rfl) rfl rfl rfl (weak_emp 1 rfl) (listed' := #[true, false, false, false, false, false, false, false, false, false, false]) rfl ?_
          refine ge_take 1 (TK := [box bg _, emp, rowl _ _ _ _ _ _, rowl _ _ _ _ _ _, fr, box b6 _, box b107 _]) rfl (by kernel_rfl) (by kernel_rfl) (by kernel_rfl) #[true, false, false, false, false, true, true, false, false, false, false] (by kernel_rfl) rfl (y_move (v := .pointer (some ⟨bg, 0, none⟩)) rfl) rfl rfl rfl (weak_emp 1 rfl) (listed' := #[true, true, false, false, false, false, false, false, false, false, false]) rfl ?_
          refine ge_take 2 (TK := [box bg _, emp, rowl _ _ _ _ _ _, rowl _ _ _ _ _ _, fr, box b6 _, box b107 _]) rfl (by kernel_rfl) (by kernel_rfl) (by kernel_rfl) #[true, true, false, false, false, true, true, false, false, false, false] (by kernel_rfl) rfl (y_nilCheck rfl) rfl rfl rfl (weak_emp 1 rfl) (listed' := #[true, true, true, false, false, false, false, false, false, false, false]) rfl ?_
          refine ge_take 3 (TK := [box bg _, emp, rowl _ _ _ _ _ _, rowl _ _ _ _ _ _, fr, box b6 _, box b107 _]) rfl (by kernel_rfl) (by kernel_rfl) (by kernel_rfl) #[true, true, true, false, false, true, true, false, false, false, false] (by kernel_rfl) rfl (y_fieldAddr_box fa69_0 rfl) rfl rfl rfl (weak_emp 1 rfl) (listed' := #[true, true, true, true, false, false, false, false, false, false, false]) rfl ?_
          refine ge_take 4 (TK := [box bg _, emp, rowl _ _ _ _ _ _, rowl _ _ _ _ _ _, fr, box b6 _, box b107 _]) rfl (by kernel_rfl) (by kernel_rfl) (by kernel_rfl) #[true, true, true, true, false, true, true, false, false, false, false] (by kernel_rfl) rfl (y_load Tryd.isAgg22 rfl (cell_box 0 rfl rfl)) rfl rfl rfl (weak_emp 1 rfl) (listed' := #[true, true, true, true, true, false, false, false, false, false, false]) rfl ?_
          refine ge_take 5 (TK := [box bg _, emp, rowl _ _ _ _ _ _, rowl _ _ _ _ _ _, fr, box b6 _, box b107 _]) rfl (by kernel_rfl) (by kernel_rfl) (by kernel_rfl) #[true, true, true, true, true, false, false, false, false, false, false] (by kernel_rfl) rfl (y_loads (cs := [_, _, _, _]) Tryd.isAgg47 Tryd.sizeOf47 rfl rfl (cells_box 5 rfl)) rfl rfl rfl (weak_emp 1 rfl) (listed' := #[true, true, true, true, true, true, false, false, false, false, false]) rfl ?_
          refine ge_one 6 (k' := 0) (listed' := #[true, true, true, true, true, true, true, false, false, false, false]) (by kernel_rfl) rfl rfl rfl ?_
          refine gop_lit (vs := [.agg #[_, _, _, _]]) (cells := #[_, _, _, _]) Tryd.underlying22 Tryd.sizeOf47 Tryd.zeroValue47 rfl (by decide) (by decide) rfl rfl rfl rfl (fun b117 hb117 => ?_)
          refine gops_nil ?_
          refine ge_fin (TK := [box bg _, emp, rowl _ _ _ _ _ _, rowl _ _ _ _ _ _, fr, box b6 _, box b107 _]) rfl (weak_trans (weak_take (T' := [box bg _, rowl _ _ _ _ _ _, rowl _ _ _ _ _ _, rowl _ _ _ _ _ _, fr, box b6 _, box b107 _]) rfl) (weak_emp 1 rfl)) ?_
          refine ge_one 7 (k' := 0) (listed' := #[true, true, true, true, true, true, true, true, false, false, false]) (by kernel_rfl) rfl rfl rfl ?_
          refine gop_append 1 (f := pnCells) (l2 := [(⟨5, 0, (((nodesOf ω1).length + b.size : Nat) : Int) - 1, 0⟩ : PN)]) Tryd.underlying22 el47 wide_pn (v := .slice _ _ _) rfl rfl rfl rfl (fun h => by cases h) (by simp [maxLen]; omega) (by simp; omega) (src_box 7 rfl rfl) rfl (fun v118 => ?_)
          refine gops_fact (fun w hM => own_form (hM.own 1 rfl)) ?_
          rintro ⟨A118, c118, rfl, hc118, hm118⟩
          refine gops_nil ?_
          refine ge_fin (TK := [box bg _, emp, rowl _ _ _ _ _ _, rowl _ _ _ _ _ _, fr, box b6 _, box b107 _]) rfl (weak_trans (weak_take (T' := [box bg _, rowl _ _ _ _ _ _, rowl _ _ _ _ _ _, rowl _ _ _ _ _ _, fr, box b6 _, box b107 _]) rfl) (weak_emp 1 rfl)) ?_
          refine ge_take 8 (TK := [box bg _, emp, rowl _ _ _ _ _ _, rowl _ _ _ _ _ _, fr, box b6 _, box b107 _]) rfl (by kernel_rfl) (by kernel_rfl) (by kernel_rfl) #[true, true, true, true, true, true, true, true, false, false, false] (by kernel_rfl) rfl (y_nilCheck rfl) rfl rfl rfl (weak_trans (weak_take (T' := [box bg _, rowl _ _ _ _ _ _, rowl _ _ _ _ _ _, rowl _ _ _ _ _ _, fr, box b6 _, box b107 _]) rfl) (weak_emp 1 rfl)) (listed' := #[true, true, true, true, true, true, true, true, true, false, false]) rfl ?_
          refine ge_take 9 (TK := [box bg _, emp, rowl _ _ _ _ _ _, rowl _ _ _ _ _ _, fr, box b6 _, box b107 _]) rfl (by kernel_rfl) (by kernel_rfl) (by kernel_rfl) #[true, true, true, true, true, true, true, true, true, false, false] (by kernel_rfl) rfl (y_fieldAddr_box fa69_0 rfl) rfl rfl rfl (weak_trans (weak_take (T' := [box bg _, rowl _ _ _ _ _ _, rowl _ _ _ _ _ _, rowl _ _ _ _ _ _, fr, box b6 _, box b107 _]) rfl) (weak_emp 1 rfl)) (listed' := #[true, true, true, true, true, true, true, true, true, true, false]) rfl ?_
          refine ge_one 10 (k' := 1) (listed' := #[true, true, true, true, true, true, true, true, true, true, true]) (by kernel_rfl) rfl rfl rfl ?_
          refine gop_store 0 (v := .slice A118 _ c118) (cs' := #[_, _, _]) rfl rfl Tryd.sizeOf22 rfl rfl rfl rfl (Nat.le_of_ble_eq_true rfl) rfl rfl ?_
          refine gops_nil ?_
          refine ge_fin (TK := []) rfl (weak_nil) ?_
          refine ge_done (by kernel_rfl) ?_
          rw [← hpN, ← hpO]
          refine gnext2 ((.neg b :: ω1, sq, A118, c118, A108, c108, some ⟨g3, 0, none⟩, d3)) (by show sq.length < (s :: sq).length; simp) (⟨by rw [← hred2]; exact hred, by rw [hbb] at hbn; simp at hbn ⊢; omega, by rw [htot]; simp at htt ⊢; omega⟩) trivial ⟨rfl, rfl, trivial⟩ ⟨_, rfl⟩
      · 
        replace hc29 := of_decide_eq_false hc29
        first
        | have hstop : redW low (s :: sq) ω = (s :: sq, ω) := red_stuck (.inr (by omega))
        | (have h9 : sq = [] := by
             cases sq with
             | nil => rfl
             | cons s sq' => simp at hg13d
           subst h9
           have hstop : redW low [] ω = ([], ω) := rfl)
        refine gexit ?_
        intro w1 hM
        refine ⟨_, res0 rfl, ?_⟩
        rw [← hred, hstop]
        exact ⟨rfl, _, _, _, _, _, _, Mem.pk (E := [_, _, _, _]) (weak_take (T' := [_, _, _, _, fr]) rfl _ hM)⟩
    · 
      have hg13d := of_decide_eq_false hg13
      refine gq_off rfl rfl rfl rfl hg13 rfl rfl ?_
      refine gq_off rfl rfl rfl rfl hg13 rfl rfl ?_
      refine gq_off rfl rfl rfl rfl hg13 rfl rfl ?_
      refine gq_off rfl rfl rfl rfl hg13 rfl rfl ?_
      refine gq_off rfl rfl rfl rfl hg13 rfl rfl ?_
      refine gq_off rfl rfl rfl rfl hg13 rfl rfl ?_
      refine gq_off rfl rfl rfl rfl hg13 rfl rfl ?_
      refine gq_off rfl rfl rfl rfl hg13 rfl rfl ?_
      refine gq_off rfl rfl rfl rfl hg13 rfl rfl ?_
      refine gq_off rfl rfl rfl rfl hg13 rfl rfl ?_
      refine gq_off rfl rfl rfl rfl hg13 rfl rfl ?_
      refine gq_off rfl rfl rfl rfl hg13 rfl rfl ?_
      refine gq_off rfl rfl rfl rfl hg13 rfl rfl ?_
      refine gq_off rfl rfl rfl rfl hg13 rfl rfl ?_
      refine gq (y_pick_f (v := .bool _) rfl hg13 rfl) rfl rfl rfl ?_
      refine gqs_nil ?_
      refine hN2 _ _ ?_
      refine gfrom [(0, .pointer (some ⟨bg, 0, none⟩)), (1, .int _ _), (29, .bool _)] ⟨rfl, rfl, rfl, trivial⟩ fun σ => ?_
      refine gcond (b := _) rfl (fun hc29 => ?_) (fun hc29 => ?_)
      · 
        cases hc29
      · 
        first
        | have hstop : redW low (s :: sq) ω = (s :: sq, ω) := red_stuck (.inr (by omega))
        | (have h9 : sq = [] := by
             cases sq with
             | nil => rfl
             | cons s sq' => simp at hg13d
           subst h9
           have hstop : redW low [] ω = ([], ω) := rfl)
        refine gexit ?_
        intro w1 hM
        refine ⟨_, res0 rfl, ?_⟩
        rw [← hred, hstop]
        exact ⟨rfl, _, _, _, _, _, _, Mem.pk (E := [_, _, _, _]) (weak_take (T' := [_, _, _, _, fr]) rfl _ hM)⟩
end Go.Proofs.YtllblbkbglifjaaDoor
namespace Go.Cf
open Go.RowKit
def Spells (s : ByteArray) (i e : Nat) (ws : List ByteArray) : Prop := ∃ ts, tks s i = ts ++ tks s e ∧ ts.map Prod.snd = ws
theorem Spells.one {s : ByteArray} {i e p : Nat} {w : ByteArray} (h : tks s i = (p, w) :: tks s e) : Spells s i e [w] := ⟨[(p, w)], h, rfl⟩
theorem Spells.skip {s : ByteArray} {i e : Nat} (h : tks s i = tks s e) : Spells s i e [] := ⟨[], h, rfl⟩
end Go.Cf
namespace Go.Cf
open Go.RowKit
section
variable {L : Nat} {p : Nat} {us : List Tk} {σ : List ByteArray} {ω : List Tr} {k : Nat}
theorem op_not : op L ((p, wNot) :: us) .want σ ω k = op L us .want (wNot :: σ) ω k := by rw [op, if_pos rfl]
theorem op_open : op L ((p, wL) :: us) .want σ ω k = op L us .want (wL :: σ) ω (k + 1) := by rw [op, if_neg (show ¬ wL = wNot by decide), if_pos rfl]
theorem op_owners : op L ((p, wOwners) :: us) .want σ ω k = op L us .got σ (.leaf 2 0 :: ω) k := by rw [op, if_neg (show ¬ wOwners = wNot by decide), if_neg (show ¬ wOwners = wL by decide), if_pos rfl]
theorem op_tests : op L ((p, wTests) :: us) .want σ ω k = op L us .got σ (.leaf 3 0 :: ω) k := by rw [op, if_neg (show ¬ wTests = wNot by decide), if_neg (show ¬ wTests = wL by decide), if_neg (show ¬ wTests = wOwners by decide), if_pos rfl]
theorem op_score : op L ((p, wScore) :: us) .want σ ω k = op L us (.num 1) σ ω k := by rw [op, if_neg (show ¬ wScore = wNot by decide), if_neg (show ¬ wScore = wL by decide), if_neg (show ¬ wScore = wOwners by decide), if_neg (show ¬ wScore = wTests by decide), if_pos rfl]
theorem op_user : op L ((p, wUser) :: us) .want σ ω k = op L us (.num 4) σ ω k := by rw [op, if_neg (show ¬ wUser = wNot by decide), if_neg (show ¬ wUser = wL by decide), if_neg (show ¬ wUser = wOwners by decide), if_neg (show ¬ wUser = wTests by decide), if_neg (show ¬ wUser = wScore by decide), if_pos rfl]
theorem op_close (h : 0 < k) : op L ((p, wR) :: us) .got σ ω k = op L us .got (redW 1 σ ω).1.tail (redW 1 σ ω).2 (k - 1) := by rw [op, if_pos ⟨rfl, h⟩]
theorem op_and : op L ((p, wAnd) :: us) .got σ ω k = op L us .want (wAnd :: (redW 2 σ ω).1) (redW 2 σ ω).2 k := by rw [op, if_neg (fun h => absurd h.1 (show ¬ wAnd = wR by decide)), if_pos rfl]
theorem op_or : op L ((p, wOr) :: us) .got σ ω k = op L us .want (wOr :: (redW 1 σ ω).1) (redW 1 σ ω).2 k := by rw [op, if_neg (fun h => absurd h.1 (show ¬ wOr = wR by decide)), if_neg (show ¬ wOr = wAnd by decide), if_pos rfl]
end
end Go.Cf
namespace Go.Cf
open Go.RowKit
def wls : List ByteArray → Nat
  | [] => 0
  | s :: σ => (if s = wL then 1 else 0) + wls σ
theorem wls_le : ∀ σ : List ByteArray, wls σ ≤ σ.length
  | [] => Nat.le_refl _
  | s :: σ => by have := wls_le σ; rw [wls, List.length_cons]; split <;> omega
theorem rank_L : rankW wL = 0 := by decide
theorem red_inv {low : Nat} (hl : 1 ≤ low) : ∀ (σ : List ByteArray) (ω : List Tr), bins σ + 1 = ω.length →
    bins (redW low σ ω).1 + 1 = (redW low σ ω).2.length ∧ wls (redW low σ ω).1 = wls σ ∧ total (redW low σ ω).2 + (redW low σ ω).1.length = total ω + σ.length
  | [], ω, h => ⟨h, rfl, rfl⟩
  | s :: σ, ω, h => by
    by_cases hr : low ≤ rankW s
    · have hL : s ≠ wL := fun e => by rw [e, rank_L] at hr; omega
      cases ht : topW s ω with
      | none => rw [red_stuck (.inl ht)]; exact ⟨h, rfl, rfl⟩
      | some ω' =>
        rw [red_up hr ht]
        by_cases hn : s = wNot
        · subst hn
          match ω, h, ht with
          | a :: ω, h, ht =>
            rw [top_not] at ht
            cases ht
            obtain ⟨i1, i2, i3⟩ := red_inv hl σ (.neg a :: ω) (by rw [bins, if_pos (.inl rfl)] at h; simpa using h)
            refine ⟨i1, by rw [i2, wls, if_neg (by decide), Nat.zero_add], ?_⟩
            rw [i3]; simp only [total, size_neg, List.length_cons]; omega
        · match ω, h, ht with
          | [a], h, ht => rw [topW, if_neg hn] at ht; cases ht
          | b :: a :: ω, h, ht =>
            rw [top_bin hn] at ht
            cases ht
            obtain ⟨i1, i2, i3⟩ := red_inv hl σ (.bin (8 - rankW s) a b :: ω) (by rw [bins, if_neg (fun e => e.elim hn hL)] at h; simp at h ⊢; omega)
            refine ⟨i1, by rw [i2, wls, if_neg hL, Nat.zero_add], ?_⟩
            rw [i3]; simp only [total, size_bin, List.length_cons]; omega
    · rw [red_stuck (.inr hr)]; exact ⟨h, rfl, rfl⟩
theorem wls_cons {σ : List ByteArray} {low : Nat} {ω : List Tr} (hl : low = 1) (hs : ∀ s ∈ σ, s = wNot ∨ s = wL ∨ s = wAnd ∨ s = wOr) (hb : bins σ + 1 = ω.length) (h : 0 < wls σ) : ∃ σ', (redW low σ ω).1 = wL :: σ' := by
  subst hl
  induction σ generalizing ω with
  | nil => simp [wls] at h
  | cons s σ ih =>
    by_cases hL : s = wL
    · subst hL
      exact ⟨σ, by rw [red_stuck (.inr (by rw [rank_L]; omega))]⟩
    · have hw : 0 < wls σ := by rw [wls, if_neg hL] at h; omega
      have hr : 1 ≤ rankW s := by
        rcases hs s (by simp) with rfl | rfl | rfl | rfl
        · decide
        · exact absurd rfl hL
        · decide
        · decide
      by_cases hn : s = wNot
      · subst hn
        match ω, hb with
        | a :: ω, hb =>
          rw [red_up hr (top_not a ω)]
          exact ih (fun x hx => hs x (by simp [hx])) (by rw [bins, if_pos (.inl rfl)] at hb; simpa using hb) hw
      · match ω, hb with
        | [a], hb => rw [bins, if_neg (fun e => e.elim hn hL)] at hb; simp only [List.length_cons, List.length_nil] at hb; omega
        | b :: a :: ω, hb =>
          rw [red_up hr (top_bin hn a b ω)]
          exact ih (fun x hx => hs x (by simp [hx])) (by rw [bins, if_neg (fun e => e.elim hn hL)] at hb; simp at hb ⊢; omega) hw
theorem red_signs {low : Nat} {P : ByteArray → Prop} : ∀ (σ : List ByteArray) (ω : List Tr), (∀ s ∈ σ, P s) → ∀ s ∈ (redW low σ ω).1, P s
  | [], _, h => h
  | x :: σ, ω, h => by
    by_cases hr : low ≤ rankW x
    · cases ht : topW x ω with
      | none => rw [red_stuck (.inl ht)]; exact h
      | some ω' => rw [red_up hr ht]; exact red_signs σ ω' (fun s hs => h s (by simp [hs]))
    · rw [red_stuck (.inr hr)]; exact h
theorem RS.empty {s : ByteArray} {a : Nat} {ts : List Tk} (h : RS s a ts) : Go.Cf.hd ts = ⟨#[]⟩ ↔ ts = [] := by
  constructor
  · intro he
    apply Classical.byContradiction
    intro hn
    have hlt : a < s.size := Classical.byContradiction fun h9 => hn (h.nil.2 h9)
    have h1 := h.hd
    rw [he] at h1
    have h2 := congrArg ByteArray.size h1
    rw [ByteArray.size_extract] at h2
    have h3 := next_gt hlt
    have h4 := next_le h.le
    have h5 : (⟨#[]⟩ : ByteArray).size = 0 := rfl
    omega
  · rintro rfl; rfl
structure PS (s : ByteArray) (a0 : Nat) (ts : List Tk) : Prop where
  ts : ts = tks s a0
  le : a0 ≤ s.size
theorem PS.rs {s : ByteArray} {a0 : Nat} {ts : List Tk} (h : PS s a0 ts) : RS s (skipW s a0) ts := ⟨h.ts.trans (tks_skip s a0).symm, skip_skip _ _, skip_le h.le⟩
theorem RS.after {s : ByteArray} {a : Nat} {ts : List Tk} (h : RS s a ts) : PS s (nextW s a) ts.tail := ⟨by rw [h.next.ts, tks_skip], next_le h.le⟩
def opR (s : ByteArray) : End := op s.size (tks s 0) .want [] [] 0
theorem parR_bad {s : ByteArray} {c : Int} {p : Nat} (hs : ¬ 200 < s.size) (h : opR s = .bad c p) : parR s = (⟨c, p⟩, []) := by
  have h2 := parse_eq s.size (fuelOf s) (tks s 0) (Nat.le_refl _)
  rw [show op s.size (tks s 0) .want [] [] 0 = opR s from rfl, h] at h2
  rw [parR, if_neg hs]
  cases hr : rd s.size (fuelOf s) 0 none (tks s 0) with
  | bad c' p' => rw [hr] at h2; cases h2; rfl
  | ok t us =>
    rw [hr] at h2
    simp only at h2 ⊢
    by_cases hu : us = []
    · rw [if_pos hu] at h2; cases h2
    · rw [if_neg hu] at h2 ⊢
      cases h2; rfl
theorem parR_ok {s : ByteArray} {ω : List Tr} (hs : ¬ 200 < s.size) (h : opR s = .ok ω) : ∃ t, ω = [t] ∧ t.ok ∧ t.size ≤ 200 ∧ parR s = madeR t := by
  have h2 := parse_eq s.size (fuelOf s) (tks s 0) (Nat.le_refl _)
  rw [show op s.size (tks s 0) .want [] [] 0 = opR s from rfl, h] at h2
  rw [parR, if_neg hs]
  cases hr : rd s.size (fuelOf s) 0 none (tks s 0) with
  | bad c' p' => rw [hr] at h2; cases h2
  | ok t us =>
    rw [hr] at h2
    simp only at h2 ⊢
    obtain ⟨h3, h4⟩ := rd_ok s.size _ _ none _ _ _ (fun _ h => by cases h) hr
    have h5 := tks_len s _ 0 rfl
    simp only [Option.map, Option.getD] at h4
    by_cases hu : us = []
    · rw [if_pos hu] at h2 ⊢
      cases h2
      exact ⟨t, rfl, h3, by omega, rfl⟩
    · rw [if_neg hu] at h2; cases h2
theorem nodes_one (t : Tr) : nodesOf [t] = post t 0 := by
  show postAll [t] 0 = _
  simp [postAll]
def SgOk (σ : List ByteArray) : Prop := ∀ s ∈ σ, s = wNot ∨ s = wL ∨ s = wAnd ∨ s = wOr
def mdOf (b : Bool) : Md := if b then .want else .got
structure PI (s : ByteArray) (wt : Bool) (o : Nat) (σ : List ByteArray) (ω : List Tr) (ts : List Tk) (a0 : Nat) : Prop where
  ps : PS s a0 ts
  eq : op s.size ts (mdOf wt) σ ω o = opR s
  bn : bins σ + (if wt then 0 else 1) = ω.length
  wl : o ≤ wls σ
  sg : SgOk σ
  tt : total ω + σ.length + ts.length ≤ 300
theorem PI.start {s : ByteArray} (hs : s.size ≤ 200) : PI s true 0 [] [] (tks s 0) 0 := ⟨⟨rfl, Nat.zero_le _⟩, rfl, rfl, Nat.le_refl _, fun _ h => (by cases h), by have := tks_len s _ 0 rfl; simp only [total, List.length_nil]; omega⟩
section
variable {s : ByteArray} {o : Nat} {σ : List ByteArray} {ω : List Tr} {ts us : List Tk} {a0 p : Nat} {w : ByteArray}
theorem PI.sign (h : PI s true o σ ω ((p, w) :: us) a0) (hw : w = wNot ∨ w = wL) {a1 : Nat} (hp : PS s a1 us) : PI s true (if w = wL then o + 1 else o) (w :: σ) ω us a1 := by
  have hb := h.bn
  have ht := h.tt
  refine ⟨hp, ?_, ?_, ?_, ?_, by simp at ht ⊢; omega⟩
  · rw [← h.eq]
    show op s.size us .want _ _ _ = op s.size ((p, w) :: us) .want σ ω o
    rcases hw with rfl | rfl
    · rw [op_not, if_neg (by decide)]
    · rw [op_open, if_pos rfl]
  · rw [bins, if_pos hw]; simpa using hb
  · have := h.wl
    rw [wls]
    split <;> omega
  · intro x hx
    rcases List.mem_cons.1 hx with rfl | hx
    · rcases hw with rfl | rfl
      · exact .inl rfl
      · exact .inr (.inl rfl)
    · exact h.sg x hx
theorem PI.leaf {k n : Int} (h : PI s true o σ ω ts a0) (he : op s.size us .got σ (.leaf k n :: ω) o = op s.size ts .want σ ω o) {a1 : Nat} (hp : PS s a1 us) (hl : us.length + 1 ≤ ts.length) : PI s false o σ (.leaf k n :: ω) us a1 := by
  have hb := h.bn
  have ht := h.tt
  refine ⟨hp, he.trans h.eq, by simp at hb ⊢; omega, h.wl, h.sg, by simp only [total, Tr.size]; omega⟩
theorem PI.close (h : PI s false o σ ω ((p, wR) :: us) a0) (ho : 0 < o) {a1 : Nat} (hp : PS s a1 us) : ∃ σ', (redW 1 σ ω).1 = wL :: σ' ∧ PI s false (o - 1) σ' (redW 1 σ ω).2 us a1 := by
  have hb : bins σ + 1 = ω.length := by simpa using h.bn
  obtain ⟨i1, i2, i3⟩ := red_inv (Nat.le_refl 1) σ ω hb
  obtain ⟨σ', hσ⟩ := wls_cons rfl h.sg hb (Nat.lt_of_lt_of_le ho h.wl)
  have ht := h.tt
  have hw := h.wl
  have hsg := red_signs (low := 1) σ ω h.sg
  rw [hσ] at i1 i2 i3 hsg
  refine ⟨σ', hσ, hp, ?_, ?_, ?_, fun x hx => hsg x (by simp [hx]), ?_⟩
  · rw [← h.eq]
    show op s.size us .got _ _ _ = op s.size ((p, wR) :: us) .got σ ω o
    rw [op_close ho, hσ]; rfl
  · rw [bins, if_pos (.inr rfl)] at i1; simp; omega
  · rw [wls, if_pos rfl] at i2; omega
  · simp at i3 ht ⊢; omega
theorem PI.oper (h : PI s false o σ ω ((p, w) :: us) a0) (hw : w = wAnd ∨ w = wOr) {a1 : Nat} (hp : PS s a1 us) : PI s true o (w :: (redW (rankW w) σ ω).1) (redW (rankW w) σ ω).2 us a1 := by
  have hb : bins σ + 1 = ω.length := by simpa using h.bn
  have hr : 1 ≤ rankW w := by rcases hw with rfl | rfl <;> decide
  obtain ⟨i1, i2, i3⟩ := red_inv hr σ ω hb
  have ht := h.tt
  refine ⟨hp, ?_, ?_, ?_, ?_, ?_⟩
  · rw [← h.eq]
    show op s.size us .want _ _ _ = op s.size ((p, w) :: us) .got σ ω o
    rcases hw with rfl | rfl
    · rw [op_and]; rfl
    · rw [op_or]; rfl
  · rw [bins, if_neg (by rcases hw with rfl | rfl <;> decide)]; simp; omega
  · have := h.wl
    rw [wls, if_neg (by rcases hw with rfl | rfl <;> decide), i2]; omega
  · intro x hx
    rcases List.mem_cons.1 hx with rfl | hx
    · rcases hw with rfl | rfl
      · exact .inr (.inr (.inl rfl))
      · exact .inr (.inr (.inr rfl))
    · exact red_signs σ ω h.sg x hx
  · simp at i3 ht ⊢; omega
end
theorem streq_t {a b : ByteArray} (h : (a.toList == b.toList) = true) : a = b := of_decide_eq_true (by rw [← strEq_dec]; exact h)
theorem streq_f {a b : ByteArray} (h : (a.toList == b.toList) = false) : a ≠ b := of_decide_eq_false (by rw [← strEq_dec]; exact h)
theorem strne_t {a b : ByteArray} (h : (!(a.toList == b.toList)) = true) : a ≠ b := streq_f (by simpa using h)
theorem strne_f {a b : ByteArray} (h : (!(a.toList == b.toList)) = false) : a = b := streq_t (by simpa using h)
theorem op_wbad {L p o : Nat} {w : ByteArray} {us : List Tk} {σ : List ByteArray} {ω : List Tr} (h1 : w ≠ wNot) (h2 : w ≠ wL) (h3 : w ≠ wOwners) (h4 : w ≠ wTests) (h5 : w ≠ wScore) (h6 : w ≠ wUser) : op L ((p, w) :: us) .want σ ω o = .bad 1 p := by
  rw [op, if_neg h1, if_neg h2, if_neg h3, if_neg h4, if_neg h5, if_neg h6]
theorem op_gbad {L p o : Nat} {w : ByteArray} {us : List Tk} {σ : List ByteArray} {ω : List Tr} (h1 : ¬ (w = wR ∧ 0 < o)) (h2 : w ≠ wAnd) (h3 : w ≠ wOr) : op L ((p, w) :: us) .got σ ω o = .bad 1 p := by
  rw [op, if_neg h1, if_neg h2, if_neg h3]
theorem op_numbad {L o : Nat} {k : Int} {ts : List Tk} {σ : List ByteArray} {ω : List Tr} (h : numV (hd ts) = none) : op L ts (.num k) σ ω o = .bad 1 (pos L ts) := by
  rw [op_num, numR, h]; rfl
theorem op_numrange {L o : Nat} {k n : Int} {ts : List Tk} {σ : List ByteArray} {ω : List Tr} (h : numV (hd ts) = some n) (h2 : n < 0 ∨ mostN k < n) : op L ts (.num k) σ ω o = .bad 3 (pos L ts) := by
  rw [op_num, numR, h]
  show thenO L σ ω o (if n < 0 ∨ mostN k < n then _ else _) = _
  rw [if_pos h2]; rfl
theorem op_numok {L o : Nat} {k n : Int} {ts : List Tk} {σ : List ByteArray} {ω : List Tr} (h : numV (hd ts) = some n) (h2 : ¬ (n < 0 ∨ mostN k < n)) : op L ts (.num k) σ ω o = op L ts.tail .got σ (.leaf k n :: ω) o := by
  rw [op_num, numR, h]
  show thenO L σ ω o (if n < 0 ∨ mostN k < n then _ else _) = _
  rw [if_neg h2]; rfl
theorem decN_most {s : ByteArray} {n k : Int} (h : numV s = some n) (hk : k = 1 ∨ k = 4) : (mostN k < decN s ↔ (n < 0 ∨ mostN k < n)) ∧ (¬ (n < 0 ∨ mostN k < n) → decN s = n) := by
  have e : decN s = if n < 0 ∨ 8 < n then 99 else n := by rw [decN, h]
  have h1 : mostN 1 = 8 := rfl
  have h4 : mostN 4 = 7 := rfl
  rw [e]
  rcases hk with rfl | rfl
  · rw [h1]; split <;> omega
  · rw [h4]; split <;> omega
theorem weak_pk {w0 : World} {a b c d e f g : Reg} {R : List Reg} : Weak w0 (a :: b :: c :: d :: e :: f :: g :: R) (pk [d, e, f, g] :: a :: b :: c :: R) := fun _ hM =>
  Mem.pk (E := [d, e, f, g]) (hM.perm (List.Perm.append_right R (List.perm_append_comm (l₁ := [a, b, c]) (l₂ := [d, e, f, g]))))
theorem weak_unpk {w0 : World} {a b c d e f g : Reg} {R : List Reg} : Weak w0 (pk [d, e, f, g] :: a :: b :: c :: R) (a :: b :: c :: d :: e :: f :: g :: R) := fun _ hM =>
  (Mem.unpk (E := [d, e, f, g]) hM).perm (List.Perm.append_right R (List.perm_append_comm (l₁ := [d, e, f, g]) (l₂ := [a, b, c])))
end Go.Cf
namespace Go.Proofs.YtllblbkbglifjaaDoor
open Go.RowKit Go.Cf
set_option maxRecDepth 10000
theorem bd65_0 (x1 : ByteArray) : Tryd.prog.built 65 [(0, .string x1)] = some #[.string x1, .int .i64 0] := by kernel_rfl
theorem bd69_  : Tryd.prog.built 69 [] = some #[.slice none 0 0, .slice none 0 0, .slice none 0 0] := by kernel_rfl
theorem fd28_0 (x0 x1 : Value) (w : World) : (Instr.field 28 (.agg #[x0, x1]) 0).run Tryd.prog w = .ok x0 w := by kernel_rfl
theorem el9 : Elem Tryd.prog 9 1 16 := elem_of (z := .string .empty) (by kernel_rfl) rfl (by decide)
set_option maxHeartbeats 32000000 in
theorem refParse_any (w : World) (s : ByteArray) (hs0 : s.size ≤ 9223372036854775807) :
    Calls Tryd.prog 20 #[.string s] w fun e w' => ∃ pv, e = .returned (.tuple #[.agg #[pv], fv (parR s).1]) ∧ Below w.heap.size w w' ∧ NewL 4 pnCells (parR s).2 w.heap.size w' pv := by
  refine gcalls Tryd.func20 rfl Tryd.ntmps20 (Nat.le_of_ble_eq_true rfl) ?_
  refine gfrom [(0, .string s)] ⟨rfl, trivial⟩ fun σ => ?_
  refine gseq fun N1 hN1 => ?_
  refine greg ?_
  refine gop_alloc (cs := #[.slice none 0 0]) Tryd.zeroValue24 rfl rfl (fun b2 hb2 => ?_)
  refine gop_alloc (cs := #[.int .i64 0, .int .i64 0]) Tryd.zeroValue28 rfl rfl (fun b3 hb3 => ?_)
  refine gops_nil ?_
  refine hN1 _ _ ?_
  refine gT [box b2 _, box b3 _] rfl ?_
  refine gfrom [(0, .string s), (2, .pointer _), (3, .pointer _)] ⟨rfl, rfl, rfl, trivial⟩ fun σ => ?_
  refine gseq fun N2 hN2 => ?_
  refine gseq fun N3 hN3 => ?_
  refine greg ?_
  refine gop (y_move (v := .string s) rfl) rfl rfl rfl ?_
  refine gop (y_lens Tryd.underlying9 rfl) rfl rfl rfl ?_
  refine gop (y_gtr rfl rfl) rfl rfl rfl ?_
  refine gops_nil ?_
  refine hN3 _ _ ?_
  refine gfrom [(0, .string s), (2, .pointer _), (3, .pointer _), (19, .bool _)] ⟨rfl, rfl, rfl, rfl, trivial⟩ fun σ => ?_
  refine gcond (b := _) rfl (fun hc19 => ?_) (fun hc19 => ?_)
  · 
    replace hc19 := of_decide_eq_true hc19
    have hP : parR s = (⟨2, -1⟩, []) := by rw [parR, if_pos (by omega)]
    refine gseq fun N4 hN4 => ?_
    refine greg ?_
    refine gop (y_build (vs := []) (cells := #[.slice none 0 0]) rfl bd24_) rfl rfl rfl ?_
    refine gop_pure (e_call (vs := [_, _]) Tryd.func16 rfl (by kernel_rfl) rfl) (fun w hM => fault_any w _ _) rfl rfl rfl ?_
    refine gop_store 0 (v := .agg #[_]) (cs' := #[_]) rfl rfl Tryd.sizeOf24 rfl rfl rfl rfl (Nat.le_of_ble_eq_true rfl) rfl rfl ?_
    refine gop_store 1 (v := .agg #[_, _]) (cs' := #[_, _]) rfl rfl Tryd.sizeOf28 rfl rfl rfl rfl (Nat.le_of_ble_eq_true rfl) rfl rfl ?_
    refine gops_nil ?_
    refine hN4 _ _ ?_
    refine gT [box b2 _, box b3 _] rfl ?_
    refine gfrom [(2, .pointer _), (3, .pointer _)] ⟨rfl, rfl, trivial⟩ fun σ => ?_
    refine gret fun w1 hM => ?_
    refine ⟨_, res2 rfl (rc 0 (cs := [_]) hM rfl rfl Tryd.isAgg24 Tryd.sizeOf24 rfl) (rc 1 (cs := [_, _]) hM rfl rfl Tryd.isAgg28 Tryd.sizeOf28 rfl), ?_⟩
    rw [hP]
    exact ⟨_, rfl, hM.low, newL_nil⟩
  · 
    replace hc19 := of_decide_eq_false hc19
    have hs : s.size ≤ 200 := by omega
    have hs2 : ¬ 200 < s.size := by omega
    refine gskip ?_
    refine hN2 _ _ ?_
    refine gfrom [(0, .string s), (2, .pointer _), (3, .pointer _)] ⟨rfl, rfl, rfl, trivial⟩ fun σ => ?_
    refine gseq fun N5 hN5 => ?_
    refine greg ?_
    refine gop (y_move (v := .string s) rfl) rfl rfl rfl ?_
    refine gop (y_build (vs := [(0, .string s)]) (cells := #[_, .int .i64 0]) rfl (bd65_0 _)) rfl rfl rfl ?_
    refine gop_box (v := .agg #[_, _]) (cs := #[_, _]) rfl rfl rfl (fun b24 hb24 => ?_)
    refine gop (y_assign (v := .pointer _) rfl) rfl rfl rfl ?_
    refine gops_nil ?_
    refine hN5 _ _ ?_
    refine gT [box b2 _, box b3 _, box b24 _] rfl ?_
    refine gfrom [(2, .pointer _), (3, .pointer _), (4, .pointer _)] ⟨rfl, rfl, rfl, trivial⟩ fun σ => ?_
    refine gseq fun N6 hN6 => ?_
    refine greg ?_
    refine gop (y_build (vs := []) (cells := #[.slice none 0 0, .slice none 0 0, .slice none 0 0]) rfl bd69_) rfl rfl rfl ?_
    refine gop_box (v := .agg #[_, _, _]) (cs := #[_, _, _]) rfl rfl rfl (fun b26 hb26 => ?_)
    refine gop (y_assign (v := .pointer _) rfl) rfl rfl rfl ?_
    refine gops_nil ?_
    refine hN6 _ _ ?_
    refine gT [box b2 _, box b3 _, box b24 _, box b26 _] rfl ?_
    refine gfrom [(2, .pointer _), (3, .pointer _), (4, .pointer _), (5, .pointer _)] ⟨rfl, rfl, rfl, rfl, trivial⟩ fun σ => ?_
    refine gseq fun N7 hN7 => ?_
    refine greg ?_
    refine gop (y_assign (v := .bool _) rfl) rfl rfl rfl ?_
    refine gops_nil ?_
    refine hN7 _ _ ?_
    refine gfrom [(2, .pointer _), (3, .pointer _), (4, .pointer _), (5, .pointer _), (6, .bool _)] ⟨rfl, rfl, rfl, rfl, rfl, trivial⟩ fun σ => ?_
    refine gseq fun N8 hN8 => ?_
    refine greg ?_
    refine gop (y_assign (v := .int _ _) rfl) rfl rfl rfl ?_
    refine gops_nil ?_
    refine hN8 _ _ ?_
    refine gfrom [(2, .pointer _), (3, .pointer _), (4, .pointer _), (5, .pointer _), (6, .bool _), (7, .int _ _)] ⟨rfl, rfl, rfl, rfl, rfl, rfl, trivial⟩ fun σ => ?_
    refine gseq fun N9 hN9 => ?_
    refine gblock ?_
    refine gnilrow pnCells 47 4 ?_
    refine gnilrow intCells 3 1 ?_
    refine gnilrow strCells 9 1 ?_
    refine gfrom2 [(6, .bool _), (7, .int _ _)] [(2, .pointer _), (3, .pointer _), (4, .pointer _), (5, .pointer _)] ⟨rfl, rfl, trivial⟩ ⟨rfl, rfl, rfl, rfl, trivial⟩ fun σ => ?_
    refine gloop2 (G := Bool × Nat × List ByteArray × List Tr × List Tk × Nat × Option Addr × Nat × Option Addr × Nat × Option Addr × Nat) (fun (wt, o, sq, ω, ts, a0, B1, d1, B2, d2, B3, d3) => PI s wt o sq ω ts a0) (fun (wt, o, sq, ω, ts, a0, B1, d1, B2, d2, B3, d3) => ts.length) (fun (wt, o, sq, ω, ts, a0, B1, d1, B2, d2, B3, d3) => [(6, .bool wt), (7, .int .i64 (o : Int))]) (fun (wt, o, sq, ω, ts, a0, B1, d1, B2, d2, B3, d3) => [(2, box b24 (.cells #[.string s, .int .i64 ((a0 : Nat))] 65)), (3, box b26 (.cells #[.slice B1 (nodesOf ω).length d1, .slice B2 (opsOf ω).length d2, .slice B3 sq.reverse.length d3] 69)), (4, rowl pnCells w.heap.size 47 4 (.slice B1 (nodesOf ω).length d1) (nodesOf ω)), (5, rowl intCells w.heap.size 3 1 (.slice B2 (opsOf ω).length d2) (opsOf ω)), (6, rowl strCells w.heap.size 9 1 (.slice B3 sq.reverse.length d3) sq.reverse)]) ((true, 0, [], [], tks s 0, 0, none, 0, none, 0, none, 0)) ?h0 ⟨rfl, rfl, trivial⟩ ⟨rfl, rfl, rfl, rfl, trivial⟩ rfl ?round
    case h0 => exact PI.start hs
    case round =>
      rintro ⟨wt, o, sq, ω, ts, a0, B1, d1, B2, d2, B3, d3⟩ hPI σ
      replace hPI : PI s wt o sq ω ts a0 := hPI
      have hrs := hPI.ps.rs
      have htt := hPI.tt
      have hnl := nodes_len ω
      rw [total_rev] at hnl
      have htg := total_ge ω
      have hol := ops_len ω
      have hwl := hPI.wl
      have hwl2 := wls_le sq
      refine gT [box b2 _, box b3 _, box b24 _, box b26 _, rowl _ _ _ _ _ _, rowl _ _ _ _ _ _, rowl _ _ _ _ _ _] rfl ?_
      refine gblock ?_
      refine gseq fun N10 hN10 => ?_
      refine greg ?_
      refine gop (y_move (v := .pointer _) rfl) rfl rfl rfl ?_
      refine gop_does1 2 (fun v r G => v = .tuple #[.string (hd ts), .int .i64 (nextW s (skipW s a0) : Nat)] ∧ r = box b24 (.cells #[.string s, .int .i64 ((skipW s a0 : Nat))] 65) ∧ G = []) (e_call (vs := [.pointer _]) Tryd.func33 rfl (by kernel_rfl) rfl) rfl (fun w fr1 hfr hM => (refPeek_any _ w b24 s fr1 hs _ hPI.ps.le hM).mono fun _ _ ⟨h1, h2⟩ => ⟨_, _, [], h1, ⟨by rw [hPI.ps.rs.hd], rfl, rfl⟩, h2⟩) rfl rfl rfl ?_
      rintro _ _ _ ⟨rfl, rfl, rfl⟩
      refine gop (y_move (v := .tuple #[.string _, .int _ _]) rfl) rfl rfl rfl ?_
      refine gop (y_extract (v := .string _) rfl rfl) rfl rfl rfl ?_
      refine gop (y_extract (v := .int _ _) rfl rfl) rfl rfl rfl ?_
      refine gop (y_assign (v := .string _) rfl) rfl rfl rfl ?_
      refine gop (y_assign (v := .int _ _) rfl) rfl rfl rfl ?_
      refine gops_nil ?_
      refine hN10 _ _ ?_
      refine gT [box b2 _, box b3 _, box b24 _, box b26 _, rowl _ _ _ _ _ _, rowl _ _ _ _ _ _, rowl _ _ _ _ _ _] rfl ?_
      refine gfrom [(2, .pointer _), (3, .pointer _), (4, .pointer _), (5, .pointer _), (6, .bool _), (7, .int _ _), (8, .string _), (9, .int _ _)] ⟨rfl, rfl, rfl, rfl, rfl, rfl, rfl, rfl, trivial⟩ fun σ => ?_
      refine gseq fun N11 hN11 => ?_
      refine greg ?_
      refine gop (y_move (v := .pointer _) rfl) rfl rfl rfl ?_
      refine gop (y_nilCheck rfl) rfl rfl rfl ?_
      refine gop (y_fieldAddr_box fa65_1 rfl) rfl rfl rfl ?_
      refine gop (y_load Tryd.isAgg3 rfl (cell_box 2 rfl rfl)) rfl rfl rfl ?_
      refine gop_pure (e_call (vs := [_, .int _ _]) Tryd.func16 rfl (by kernel_rfl) rfl) (fun w hM => fault_any w _ _) rfl rfl rfl ?_
      refine gop_alloc (cs := #[.int .i64 0, .int .i64 0]) Tryd.zeroValue28 rfl rfl (fun b10 hb10 => ?_)
      refine gop_store 7 (v := .agg #[_, _]) (cs' := #[_, _]) rfl rfl Tryd.sizeOf28 rfl rfl rfl rfl (Nat.le_of_ble_eq_true rfl) rfl rfl ?_
      refine gops_nil ?_
      refine hN11 _ _ ?_
      refine gT [box b2 _, box b3 _, box b24 _, box b26 _, rowl _ _ _ _ _ _, rowl _ _ _ _ _ _, rowl _ _ _ _ _ _, box b10 _] rfl ?_
      refine gfrom [(2, .pointer _), (3, .pointer _), (4, .pointer _), (5, .pointer _), (6, .bool _), (7, .int _ _), (8, .string _), (9, .int _ _), (10, .pointer _)] ⟨rfl, rfl, rfl, rfl, rfl, rfl, rfl, rfl, rfl, trivial⟩ fun σ => ?_
      refine gseq fun N12 hN12 => ?_
      refine gseq fun N13 hN13 => ?_
      refine greg ?_
      refine gop (y_move (v := .string _) rfl) rfl rfl rfl ?_
      refine gop (y_eqls rfl rfl) rfl rfl rfl ?_
      refine gops_nil ?_
      refine hN13 _ _ ?_
      refine gfrom [(2, .pointer _), (3, .pointer _), (4, .pointer _), (5, .pointer _), (6, .bool _), (7, .int _ _), (8, .string _), (9, .int _ _), (10, .pointer _), (38, .bool _)] ⟨rfl, rfl, rfl, rfl, rfl, rfl, rfl, rfl, rfl, rfl, trivial⟩ fun σ => ?_
      refine gcond (b := _) rfl (fun hc38 => ?_) (fun hc38 => ?_)
      · 
        have hts : ts = [] := hrs.empty.1 (streq_t hc38)
        subst hts
        have hpa : s.size = skipW s a0 := hrs.pos
        refine gseq fun N14 hN14 => ?_
        refine gseq fun N15 hN15 => ?_
        refine greg ?_
        refine gop (y_move (v := .bool _) rfl) rfl rfl rfl ?_
        refine gop (y_move (v := .bool _) rfl) rfl rfl rfl ?_
        refine gop_if (want := false) rfl rfl rfl rfl rfl rfl (fun hg40 => ?_) (fun hg40 => ?_)
        · 
          have hg40d := hg40
          refine gop (y_bare (y_move (v := .int _ _) rfl)) rfl rfl rfl ?_
          refine gop_on rfl rfl rfl rfl hg40 ?_
          refine gop (y_bare (y_gtr rfl rfl)) rfl rfl rfl ?_
          refine gop (y_pick_f (v := .bool _) rfl hg40 rfl) rfl rfl rfl ?_
          refine gops_nil ?_
          refine hN15 _ _ ?_
          refine gfrom [(2, .pointer _), (3, .pointer _), (5, .pointer _), (10, .pointer _), (43, .bool _)] ⟨rfl, rfl, rfl, rfl, rfl, trivial⟩ fun σ => ?_
          refine gcond (b := _) rfl (fun hc43 => ?_) (fun hc43 => ?_)
          · 
            replace hc43 := of_decide_eq_true hc43
            have hP : parR s = (⟨1, skipW s a0⟩, []) := by
              refine parR_bad hs2 ?_
              rw [← hPI.eq, ← hpa]
              have hmd : wt = true ∨ 0 < o := by first | exact .inr (by omega) | exact .inl hg40
              rcases hmd with rfl | h9
              · rfl
              · cases wt with
                | true => rfl
                | false => exact if_pos h9
            refine gseq fun N16 hN16 => ?_
            refine greg_e1 [] [(0, room b2 24 1), (1, room b3 28 2)] (by kernel_rfl) ?_
            refine ge_take 0 (TK := [room b2 24 1, room b3 28 2, box b24 _, box b26 _, rowl _ _ _ _ _ _, rowl _ _ _ _ _ _, rowl _ _ _ _ _ _, box b10 _]) rfl (by kernel_rfl) (by kernel_rfl) (by kernel_rfl) #[false, true, false, false] (by kernel_rfl) rfl (y_build (vs := []) (cells := #[.slice none 0 0]) rfl bd24_) rfl rfl rfl (weak_trans (weak_room 0 rfl rfl) (weak_room 1 rfl rfl)) (listed' := #[true, false, false, false]) rfl ?_
            refine ge_take 1 (TK := [room b2 24 1, room b3 28 2, box b24 _, box b26 _, rowl _ _ _ _ _ _, rowl _ _ _ _ _ _, rowl _ _ _ _ _ _, box b10 _]) rfl (by kernel_rfl) (by kernel_rfl) (by kernel_rfl) #[true, false, true, false] (by kernel_rfl) rfl (y_loads (cs := [_, _]) Tryd.isAgg28 Tryd.sizeOf28 rfl rfl (cells_box 7 rfl)) rfl rfl rfl (weak_trans (weak_room 0 rfl rfl) (weak_room 1 rfl rfl)) (listed' := #[true, true, false, false]) rfl ?_
            refine ge_one 2 (k' := 0) (listed' := #[true, true, true, false]) (by kernel_rfl) rfl rfl rfl ?_
            refine gop_store 0 (v := .agg #[_]) (cs' := #[_]) rfl rfl Tryd.sizeOf24 rfl rfl rfl rfl (Nat.le_of_ble_eq_true rfl) rfl rfl ?_
            refine gops_nil ?_
            refine ge_fin (TK := [room b2 24 1, room b3 28 2, box b24 _, box b26 _, rowl _ _ _ _ _ _, rowl _ _ _ _ _ _, rowl _ _ _ _ _ _, box b10 _]) rfl (weak_trans (weak_room 0 rfl rfl) (weak_room 1 rfl rfl)) ?_
            refine ge_one 3 (k' := 0) (listed' := #[true, true, true, true]) (by kernel_rfl) rfl rfl rfl ?_
            refine gop_store 1 (v := .agg #[_, _]) (cs' := #[_, _]) rfl rfl Tryd.sizeOf28 rfl rfl rfl rfl (Nat.le_of_ble_eq_true rfl) rfl rfl ?_
            refine gops_nil ?_
            refine ge_fin (TK := [room b2 24 1, room b3 28 2, box b24 _, box b26 _, rowl _ _ _ _ _ _, rowl _ _ _ _ _ _, rowl _ _ _ _ _ _, box b10 _]) rfl (weak_trans (weak_room 0 rfl rfl) (weak_room 1 rfl rfl)) ?_
            refine ge_done (by kernel_rfl) ?_
            refine hN16 _ _ ?_
            refine gT [box b2 _, box b3 _, box b24 _, box b26 _, rowl _ _ _ _ _ _, rowl _ _ _ _ _ _, rowl _ _ _ _ _ _, box b10 _] rfl ?_
            refine gfrom [(2, .pointer _), (3, .pointer _)] ⟨rfl, rfl, trivial⟩ fun σ => ?_
            refine gret fun w1 hM => ?_
            refine ⟨_, res2 rfl (rc 0 (cs := [_]) hM rfl rfl Tryd.isAgg24 Tryd.sizeOf24 rfl) (rc 1 (cs := [_, _]) hM rfl rfl Tryd.isAgg28 Tryd.sizeOf28 rfl), ?_⟩
            rw [hP]
            exact ⟨_, rfl, hM.low, newL_nil⟩
          · 
            replace hc43 := of_decide_eq_false hc43
            obtain rfl : wt = false := by first | assumption | simp_all
            have ho0 : o = 0 := by first | omega | (simp_all; omega)
            subst ho0
            obtain ⟨t, hω, hto, hts2, hP⟩ := parR_ok (ω := (redW 1 sq ω).2) hs2 (by rw [← hPI.eq]; rfl)
            have hbn1 : bins sq + 1 ≤ ω.length := by have h9 := hPI.bn; simp at h9; omega
            obtain ⟨hmk1, hmk2⟩ := polF_made hto
            refine gskip ?_
            refine hN14 _ _ ?_
            refine gfrom [(2, .pointer _), (3, .pointer _), (5, .pointer _)] ⟨rfl, rfl, rfl, trivial⟩ fun σ => ?_
            refine gexit ?_
            refine hN9 _ _ ?_
            refine gfrom [(2, .pointer _), (3, .pointer _), (5, .pointer _)] ⟨rfl, rfl, rfl, trivial⟩ fun σ => ?_
            refine gseq fun N17 hN17 => ?_
            refine greg ?_
            refine gop (y_move (v := .pointer _) rfl) rfl rfl rfl ?_
            refine gops_mem _ weak_pk ?_
            refine gop_does1 0 (fun v r G => ∃ E1 E2 E3 e1 e2 e3, v = .tuple #[] ∧ r = pk (bldE b26 w.heap.size E1 e1 E2 e2 E3 e3 (post t 0) (opsOf [t]) ((redW 1 sq ω).1.reverse)) ∧ G = []) (e_call (vs := [.pointer _, _]) Tryd.func37 rfl (by kernel_rfl) rfl) rfl (fun w fr1 hfr hM => by
  have hc := refReduce_any _ w b26 _ _ _ _ _ _ ω sq fr1 hM hbn1 (by omega) _ 1 rfl (by first | omega | exact hrw1)
  rw [hω, nodes_one] at hc
  exact hc.mono fun _ _ ⟨h1, E1, E2, E3, e1, e2, e3, h2⟩ => ⟨_, _, [], h1, ⟨E1, E2, E3, e1, e2, e3, rfl, rfl, rfl⟩, h2⟩) rfl rfl rfl ?_
            rintro _ _ _ ⟨E1, E2, E3, e1, e2, e3, rfl, rfl, rfl⟩
            refine gops_mem _ weak_unpk ?_
            refine gops_fact (fun w hM => row_form (hM.ok _ (List.mem_of_getElem? (i := 4) rfl))) ?_
            rintro ⟨xA, xc, hxv, hc175, hm175, -⟩
            simp only [Value.slice.injEq] at hxv
            obtain ⟨rfl, -, rfl⟩ := hxv
            refine gops_nil ?_
            refine hN17 _ _ ?_
            refine gT [box b2 _, box b3 _, box b24 _, box b26 _, rowl _ _ _ _ _ _, rowl _ _ _ _ _ _, rowl _ _ _ _ _ _, box b10 _] rfl ?_
            refine gfrom [(2, .pointer _), (3, .pointer _), (5, .pointer _)] ⟨rfl, rfl, rfl, trivial⟩ fun σ => ?_
            refine gseq fun N18 hN18 => ?_
            refine greg ?_
            refine gop (y_move (v := .pointer _) rfl) rfl rfl rfl ?_
            refine gop (y_nilCheck rfl) rfl rfl rfl ?_
            refine gop (y_fieldAddr_box fa69_0 rfl) rfl rfl rfl ?_
            refine gop (y_load Tryd.isAgg22 rfl (cell_box 3 rfl rfl)) rfl rfl rfl ?_
            refine gop (y_build (vs := [(0, .slice _ _ _)]) (cells := #[_]) rfl (bd24_0 _ _ _)) rfl rfl rfl ?_
            refine gop_alloc (cs := #[.slice none 0 0]) Tryd.zeroValue24 rfl rfl (fun b16 hb16 => ?_)
            refine gop_store 8 (v := .agg #[_]) (cs' := #[_]) rfl rfl Tryd.sizeOf24 rfl rfl rfl rfl (Nat.le_of_ble_eq_true rfl) rfl rfl ?_
            refine gops_nil ?_
            refine hN18 _ _ ?_
            refine gT [box b2 _, box b3 _, box b24 _, box b26 _, rowl _ _ _ _ _ _, rowl _ _ _ _ _ _, rowl _ _ _ _ _ _, box b10 _, box b16 _] rfl ?_
            refine gfrom [(2, .pointer _), (3, .pointer _), (16, .pointer _)] ⟨rfl, rfl, rfl, trivial⟩ fun σ => ?_
            refine gseq fun N19 hN19 => ?_
            refine gseq fun N20 hN20 => ?_
            refine greg ?_
            refine gop (y_loads (cs := [_]) Tryd.isAgg24 Tryd.sizeOf24 rfl rfl (cells_box 8 rfl)) rfl rfl rfl ?_
            refine gop_pure (e_call (vs := [.agg #[_]]) Tryd.func8 rfl (by kernel_rfl) rfl) (fun w hM => polFault_any w _ _ (post t 0) ((row_rdl (f := pnCells) (fun _ => rfl) (hM.ok _ (List.mem_of_getElem? (i := 4) rfl))).mono (Nat.zero_le _)) hc175 hm175) rfl rfl rfl ?_
            refine gop (y_field (cs := #[_, _]) rfl (fd28_0 _ _)) rfl rfl rfl ?_
            refine gop (y_neq rfl rfl) rfl rfl rfl ?_
            refine gops_nil ?_
            refine hN20 _ _ ?_
            refine gfrom [(2, .pointer _), (3, .pointer _), (16, .pointer _), (184, .bool _)] ⟨rfl, rfl, rfl, rfl, trivial⟩ fun σ => ?_
            refine gcond (b := _) rfl (fun hc184 => ?_) (fun hc184 => ?_)
            · 
              replace hc184 := of_decide_eq_true hc184
              have hP2 : madeR t = (⟨10, -1⟩, []) := by rw [madeR, if_pos (hmk1.1 hc184)]
              refine gseq fun N21 hN21 => ?_
              refine greg ?_
              refine gop (y_build (vs := []) (cells := #[.slice none 0 0]) rfl bd24_) rfl rfl rfl ?_
              refine gop_pure (e_call (vs := [_, _]) Tryd.func16 rfl (by kernel_rfl) rfl) (fun w hM => fault_any w _ _) rfl rfl rfl ?_
              refine gop_store 0 (v := .agg #[_]) (cs' := #[_]) rfl rfl Tryd.sizeOf24 rfl rfl rfl rfl (Nat.le_of_ble_eq_true rfl) rfl rfl ?_
              refine gop_store 1 (v := .agg #[_, _]) (cs' := #[_, _]) rfl rfl Tryd.sizeOf28 rfl rfl rfl rfl (Nat.le_of_ble_eq_true rfl) rfl rfl ?_
              refine gops_nil ?_
              refine hN21 _ _ ?_
              refine gT [box b2 _, box b3 _, box b24 _, box b26 _, rowl _ _ _ _ _ _, rowl _ _ _ _ _ _, rowl _ _ _ _ _ _, box b10 _, box b16 _] rfl ?_
              refine gfrom [(2, .pointer _), (3, .pointer _)] ⟨rfl, rfl, trivial⟩ fun σ => ?_
              refine gret fun w1 hM => ?_
              refine ⟨_, res2 rfl (rc 0 (cs := [_]) hM rfl rfl Tryd.isAgg24 Tryd.sizeOf24 rfl) (rc 1 (cs := [_, _]) hM rfl rfl Tryd.isAgg28 Tryd.sizeOf28 rfl), ?_⟩
              rw [hP, hP2]
              exact ⟨_, rfl, hM.low, newL_nil⟩
            · 
              replace hc184 := Decidable.not_not.1 (of_decide_eq_false hc184)
              have hB : ¬ (24 < t.size ∨ 12 < t.depth) := fun h9 => absurd (hmk1.2 h9) (by omega)
              have hP2 : madeR t = (⟨0, 0⟩, post t 0) := by rw [madeR, if_neg hB]
              refine gskip ?_
              refine hN19 _ _ ?_
              refine gfrom [(2, .pointer _), (3, .pointer _), (16, .pointer _)] ⟨rfl, rfl, rfl, trivial⟩ fun σ => ?_
              refine gseq fun N22 hN22 => ?_
              refine greg_e1 [] [(0, room b2 24 1), (1, room b3 28 2)] (by kernel_rfl) ?_
              refine ge_take 0 (TK := [room b2 24 1, room b3 28 2, box b24 _, box b26 _, rowl _ _ _ _ _ _, rowl _ _ _ _ _ _, rowl _ _ _ _ _ _, box b10 _, box b16 _]) rfl (by kernel_rfl) (by kernel_rfl) (by kernel_rfl) #[false, true, false, false] (by kernel_rfl) rfl (y_loads (cs := [_]) Tryd.isAgg24 Tryd.sizeOf24 rfl rfl (cells_box 8 rfl)) rfl rfl rfl (weak_trans (weak_room 0 rfl rfl) (weak_room 1 rfl rfl)) (listed' := #[true, false, false, false]) rfl ?_
              refine ge_one 1 (k' := 0) (listed' := #[true, true, false, false]) (by kernel_rfl) rfl rfl rfl ?_
              refine gop_pure (e_call (vs := [_, _]) Tryd.func16 rfl (by kernel_rfl) rfl) (fun w hM => fault_any w _ _) rfl rfl rfl ?_
              refine gops_nil ?_
              refine ge_fin (TK := [room b2 24 1, room b3 28 2, box b24 _, box b26 _, rowl _ _ _ _ _ _, rowl _ _ _ _ _ _, rowl _ _ _ _ _ _, box b10 _, box b16 _]) rfl (weak_trans (weak_room 0 rfl rfl) (weak_room 1 rfl rfl)) ?_
              refine ge_one 2 (k' := 0) (listed' := #[true, true, true, false]) (by kernel_rfl) rfl rfl rfl ?_
              refine gop_store 0 (v := .agg #[_]) (cs' := #[_]) rfl rfl Tryd.sizeOf24 rfl rfl rfl rfl (Nat.le_of_ble_eq_true rfl) rfl rfl ?_
              refine gops_nil ?_
              refine ge_fin (TK := [room b2 24 1, room b3 28 2, box b24 _, box b26 _, rowl _ _ _ _ _ _, rowl _ _ _ _ _ _, rowl _ _ _ _ _ _, box b10 _, box b16 _]) rfl (weak_trans (weak_room 0 rfl rfl) (weak_room 1 rfl rfl)) ?_
              refine ge_one 3 (k' := 0) (listed' := #[true, true, true, true]) (by kernel_rfl) rfl rfl rfl ?_
              refine gop_store 1 (v := .agg #[_, _]) (cs' := #[_, _]) rfl rfl Tryd.sizeOf28 rfl rfl rfl rfl (Nat.le_of_ble_eq_true rfl) rfl rfl ?_
              refine gops_nil ?_
              refine ge_fin (TK := [room b2 24 1, room b3 28 2, box b24 _, box b26 _, rowl _ _ _ _ _ _, rowl _ _ _ _ _ _, rowl _ _ _ _ _ _, box b10 _, box b16 _]) rfl (weak_trans (weak_room 0 rfl rfl) (weak_room 1 rfl rfl)) ?_
              refine ge_done (by kernel_rfl) ?_
              refine hN22 _ _ ?_
              refine gT [box b2 _, box b3 _, box b24 _, box b26 _, rowl _ _ _ _ _ _, rowl _ _ _ _ _ _, rowl _ _ _ _ _ _, box b10 _, box b16 _] rfl ?_
              refine gfrom [(2, .pointer _), (3, .pointer _)] ⟨rfl, rfl, trivial⟩ fun σ => ?_
              refine gret fun w1 hM => ?_
              refine ⟨_, res2 rfl (rc 0 (cs := [_]) hM rfl rfl Tryd.isAgg24 Tryd.sizeOf24 rfl) (rc 1 (cs := [_, _]) hM rfl rfl Tryd.isAgg28 Tryd.sizeOf28 rfl), ?_⟩
              rw [hP, hP2]
              exact ⟨_, rfl, hM.low, hM.newL 4 rfl (fun _ => rfl)⟩
        · 
          have hg40d := hg40
          refine gop_off rfl rfl rfl rfl hg40 rfl rfl ?_
          refine gop (y_pick_t (v := .bool _) rfl hg40 rfl) rfl rfl rfl ?_
          refine gops_nil ?_
          refine hN15 _ _ ?_
          refine gfrom [(2, .pointer _), (3, .pointer _), (5, .pointer _), (10, .pointer _), (43, .bool _)] ⟨rfl, rfl, rfl, rfl, rfl, trivial⟩ fun σ => ?_
          refine gcond (b := _) rfl (fun hc43 => ?_) (fun hc43 => ?_)
          · 
            have hP : parR s = (⟨1, skipW s a0⟩, []) := by
              refine parR_bad hs2 ?_
              rw [← hPI.eq, ← hpa]
              have hmd : wt = true ∨ 0 < o := by first | exact .inr (by omega) | exact .inl hg40
              rcases hmd with rfl | h9
              · rfl
              · cases wt with
                | true => rfl
                | false => exact if_pos h9
            refine gseq fun N23 hN23 => ?_
            refine greg_e1 [] [(0, room b2 24 1), (1, room b3 28 2)] (by kernel_rfl) ?_
            refine ge_take 0 (TK := [room b2 24 1, room b3 28 2, box b24 _, box b26 _, rowl _ _ _ _ _ _, rowl _ _ _ _ _ _, rowl _ _ _ _ _ _, box b10 _]) rfl (by kernel_rfl) (by kernel_rfl) (by kernel_rfl) #[false, true, false, false] (by kernel_rfl) rfl (y_build (vs := []) (cells := #[.slice none 0 0]) rfl bd24_) rfl rfl rfl (weak_trans (weak_room 0 rfl rfl) (weak_room 1 rfl rfl)) (listed' := #[true, false, false, false]) rfl ?_
            refine ge_take 1 (TK := [room b2 24 1, room b3 28 2, box b24 _, box b26 _, rowl _ _ _ _ _ _, rowl _ _ _ _ _ _, rowl _ _ _ _ _ _, box b10 _]) rfl (by kernel_rfl) (by kernel_rfl) (by kernel_rfl) #[true, false, true, false] (by kernel_rfl) rfl (y_loads (cs := [_, _]) Tryd.isAgg28 Tryd.sizeOf28 rfl rfl (cells_box 7 rfl)) rfl rfl rfl (weak_trans (weak_room 0 rfl rfl) (weak_room 1 rfl rfl)) (listed' := #[true, true, false, false]) rfl ?_
            refine ge_one 2 (k' := 0) (listed' := #[true, true, true, false]) (by kernel_rfl) rfl rfl rfl ?_
            refine gop_store 0 (v := .agg #[_]) (cs' := #[_]) rfl rfl Tryd.sizeOf24 rfl rfl rfl rfl (Nat.le_of_ble_eq_true rfl) rfl rfl ?_
            refine gops_nil ?_
            refine ge_fin (TK := [room b2 24 1, room b3 28 2, box b24 _, box b26 _, rowl _ _ _ _ _ _, rowl _ _ _ _ _ _, rowl _ _ _ _ _ _, box b10 _]) rfl (weak_trans (weak_room 0 rfl rfl) (weak_room 1 rfl rfl)) ?_
            refine ge_one 3 (k' := 0) (listed' := #[true, true, true, true]) (by kernel_rfl) rfl rfl rfl ?_
            refine gop_store 1 (v := .agg #[_, _]) (cs' := #[_, _]) rfl rfl Tryd.sizeOf28 rfl rfl rfl rfl (Nat.le_of_ble_eq_true rfl) rfl rfl ?_
            refine gops_nil ?_
            refine ge_fin (TK := [room b2 24 1, room b3 28 2, box b24 _, box b26 _, rowl _ _ _ _ _ _, rowl _ _ _ _ _ _, rowl _ _ _ _ _ _, box b10 _]) rfl (weak_trans (weak_room 0 rfl rfl) (weak_room 1 rfl rfl)) ?_
            refine ge_done (by kernel_rfl) ?_
            refine hN23 _ _ ?_
            refine gT [box b2 _, box b3 _, box b24 _, box b26 _, rowl _ _ _ _ _ _, rowl _ _ _ _ _ _, rowl _ _ _ _ _ _, box b10 _] rfl ?_
            refine gfrom [(2, .pointer _), (3, .pointer _)] ⟨rfl, rfl, trivial⟩ fun σ => ?_
            refine gret fun w1 hM => ?_
            refine ⟨_, res2 rfl (rc 0 (cs := [_]) hM rfl rfl Tryd.isAgg24 Tryd.sizeOf24 rfl) (rc 1 (cs := [_, _]) hM rfl rfl Tryd.isAgg28 Tryd.sizeOf28 rfl), ?_⟩
            rw [hP]
            exact ⟨_, rfl, hM.low, newL_nil⟩
          · 
            cases hc43
      · 
        have hts : ts ≠ [] := fun h9 => streq_f hc38 (hrs.empty.2 h9)
        obtain ⟨⟨p, wd⟩, us, rfl⟩ : ∃ x us, ts = x :: us := by
          cases ts with
          | nil => exact absurd rfl hts
          | cons x us => exact ⟨x, us, rfl⟩
        have hpa : p = skipW s a0 := hrs.pos
        refine gskip ?_
        refine hN12 _ _ ?_
        refine gfrom [(2, .pointer _), (3, .pointer _), (4, .pointer _), (5, .pointer _), (6, .bool _), (7, .int _ _), (8, .string _), (9, .int _ _), (10, .pointer _)] ⟨rfl, rfl, rfl, rfl, rfl, rfl, rfl, rfl, rfl, trivial⟩ fun σ => ?_
        refine gseq fun N24 hN24 => ?_
        refine greg ?_
        refine gop (y_move (v := .pointer _) rfl) rfl rfl rfl ?_
        refine gop (y_move (v := .int _ _) rfl) rfl rfl rfl ?_
        refine gop (y_nilCheck rfl) rfl rfl rfl ?_
        refine gop (y_fieldAddr_box fa65_1 rfl) rfl rfl rfl ?_
        refine gop_store 2 (v := .int _ _) (cs' := #[_, _]) rfl rfl Tryd.sizeOf3 rfl rfl rfl rfl (Nat.le_of_ble_eq_true rfl) rfl rfl ?_
        refine gops_nil ?_
        refine hN24 _ _ ?_
        refine gT [box b2 _, box b3 _, box b24 _, box b26 _, rowl _ _ _ _ _ _, rowl _ _ _ _ _ _, rowl _ _ _ _ _ _, box b10 _] rfl ?_
        refine gfrom [(2, .pointer _), (3, .pointer _), (4, .pointer _), (5, .pointer _), (6, .bool _), (7, .int _ _), (8, .string _), (10, .pointer _)] ⟨rfl, rfl, rfl, rfl, rfl, rfl, rfl, rfl, trivial⟩ fun σ => ?_
        refine gseq fun N25 hN25 => ?_
        refine gseq fun N26 hN26 => ?_
        refine greg ?_
        refine gop (y_move (v := .bool _) rfl) rfl rfl rfl ?_
        refine gops_nil ?_
        refine hN26 _ _ ?_
        refine gfrom [(2, .pointer _), (3, .pointer _), (4, .pointer _), (5, .pointer _), (6, .bool _), (7, .int _ _), (8, .string _), (10, .pointer _), (50, .bool _)] ⟨rfl, rfl, rfl, rfl, rfl, rfl, rfl, rfl, rfl, trivial⟩ fun σ => ?_
        refine gcond (b := _) rfl (fun hc50 => ?_) (fun hc50 => ?_)
        · 
          obtain rfl : wt = true := hc50
          refine gseq fun N27 hN27 => ?_
          refine gseq fun N28 hN28 => ?_
          refine greg ?_
          refine gop (y_move (v := .string _) rfl) rfl rfl rfl ?_
          refine gop (y_eqls rfl rfl) rfl rfl rfl ?_
          refine gop (y_move (v := .bool _) rfl) rfl rfl rfl ?_
          refine gop_if (want := false) rfl rfl rfl rfl rfl rfl (fun hg53 => ?_) (fun hg53 => ?_)
          · 
            have hg53d := hg53
            refine gop (y_bare (y_move (v := .string _) rfl)) rfl rfl rfl ?_
            refine gop_on rfl rfl rfl rfl hg53 ?_
            refine gop (y_bare (y_eqls rfl rfl)) rfl rfl rfl ?_
            refine gop (y_pick_f (v := .bool _) rfl hg53 rfl) rfl rfl rfl ?_
            refine gops_nil ?_
            refine hN28 _ _ ?_
            refine gfrom [(2, .pointer _), (3, .pointer _), (4, .pointer _), (5, .pointer _), (6, .bool _), (7, .int _ _), (8, .string _), (10, .pointer _), (56, .bool _)] ⟨rfl, rfl, rfl, rfl, rfl, rfl, rfl, rfl, rfl, trivial⟩ fun σ => ?_
            refine gcond (b := _) rfl (fun hc56 => ?_) (fun hc56 => ?_)
            · 
              have hw56 : wd = wNot ∨ wd = wL := by first | exact .inr (streq_t hc56) | exact .inl (streq_t hg53)
              refine gseq fun N29 hN29 => ?_
              refine greg ?_
              refine gop (y_move (v := .pointer _) rfl) rfl rfl rfl ?_
              refine gop (y_move (v := .pointer _) rfl) rfl rfl rfl ?_
              refine gop (y_nilCheck rfl) rfl rfl rfl ?_
              refine gop (y_fieldAddr_box fa69_2 rfl) rfl rfl rfl ?_
              refine gop (y_load Tryd.isAgg67 rfl (cell_box 3 rfl rfl)) rfl rfl rfl ?_
              refine gop (y_move (v := .string _) rfl) rfl rfl rfl ?_
              refine gop_lit (vs := [.string _]) (cells := #[_]) Tryd.underlying67 Tryd.sizeOf9 Tryd.zeroValue9 rfl (by decide) (by decide) rfl rfl rfl rfl (fun b63 hb63 => ?_)
              refine gop_append 6 (f := strCells) (l2 := [wd]) Tryd.underlying67 el9 wide_str (v := .slice _ _ _) rfl rfl rfl rfl (fun h => by cases h) (by simp [maxLen]; omega) (by simp; omega) (src_box 8 rfl rfl) rfl (fun v64 => ?_)
              refine gops_fact (fun w hM => own_form (hM.own 6 rfl)) ?_
              rintro ⟨A64, c64, rfl, hc64, hm64⟩
              refine gop (y_nilCheck rfl) rfl rfl rfl ?_
              refine gop (y_fieldAddr_box fa69_2 rfl) rfl rfl rfl ?_
              refine gop_store 3 (v := .slice A64 _ c64) (cs' := #[_, _, _]) rfl rfl Tryd.sizeOf67 rfl rfl rfl rfl (Nat.le_of_ble_eq_true rfl) rfl rfl ?_
              refine gops_nil ?_
              refine hN29 _ _ ?_
              refine gT [box b2 _, box b3 _, box b24 _, box b26 _, rowl _ _ _ _ _ _, rowl _ _ _ _ _ _, rowl _ _ _ _ _ _, box b10 _, box b63 _] rfl ?_
              refine gfrom [(2, .pointer _), (3, .pointer _), (4, .pointer _), (5, .pointer _), (6, .bool _), (7, .int _ _), (8, .string _)] ⟨rfl, rfl, rfl, rfl, rfl, rfl, rfl, trivial⟩ fun σ => ?_
              refine gseq fun N30 hN30 => ?_
              refine gseq fun N31 hN31 => ?_
              refine greg ?_
              refine gop (y_move (v := .string _) rfl) rfl rfl rfl ?_
              refine gop (y_eqls rfl rfl) rfl rfl rfl ?_
              refine gops_nil ?_
              refine hN31 _ _ ?_
              refine gfrom [(2, .pointer _), (3, .pointer _), (4, .pointer _), (5, .pointer _), (6, .bool _), (7, .int _ _), (68, .bool _)] ⟨rfl, rfl, rfl, rfl, rfl, rfl, rfl, trivial⟩ fun σ => ?_
              refine gcond (b := _) rfl (fun hc68 => ?_) (fun hc68 => ?_)
              · 
                have h68 : wd = wL := streq_t hc68
                have ho68 : ((o : Int) + 1) = ((if wd = wL then o + 1 else o : Nat) : Int) := by rw [if_pos h68]; rfl
                refine greg ?_
                refine gop (y_move (v := .int _ _) rfl) rfl rfl rfl ?_
                refine gop (y_add rfl rfl ⟨by omega, by omega⟩) rfl rfl rfl ?_
                refine gop (y_assign (v := .int _ _) rfl) rfl rfl rfl ?_
                refine gops_nil ?_
                refine hN30 _ _ ?_
                refine gfrom [(2, .pointer _), (3, .pointer _), (4, .pointer _), (5, .pointer _), (6, .bool _), (7, .int _ _)] ⟨rfl, rfl, rfl, rfl, rfl, rfl, trivial⟩ fun σ => ?_
                refine gexit ?_
                rw [← List.reverse_cons]
                refine gnext2 ((true, (if wd = wL then o + 1 else o), wd :: sq, ω, us, nextW s (skipW s a0), B1, d1, B2, d2, A64, c64)) (by show us.length < us.length + 1; omega) (hPI.sign hw56 hrs.after) ⟨rfl, (congrArg (Value.int .i64) ho68), trivial⟩ ⟨rfl, rfl, rfl, rfl, trivial⟩ ⟨_, rfl⟩
              · 
                have h68 : wd ≠ wL := streq_f hc68
                have ho68 : (o : Int) = ((if wd = wL then o + 1 else o : Nat) : Int) := by rw [if_neg h68]
                refine gskip ?_
                refine hN30 _ _ ?_
                refine gfrom [(2, .pointer _), (3, .pointer _), (4, .pointer _), (5, .pointer _), (6, .bool _), (7, .int _ _)] ⟨rfl, rfl, rfl, rfl, rfl, rfl, trivial⟩ fun σ => ?_
                refine gexit ?_
                rw [← List.reverse_cons]
                refine gnext2 ((true, (if wd = wL then o + 1 else o), wd :: sq, ω, us, nextW s (skipW s a0), B1, d1, B2, d2, A64, c64)) (by show us.length < us.length + 1; omega) (hPI.sign hw56 hrs.after) ⟨rfl, (congrArg (Value.int .i64) ho68), trivial⟩ ⟨rfl, rfl, rfl, rfl, trivial⟩ ⟨_, rfl⟩
            · 
              have hn56 : wd ≠ wNot := streq_f hg53
              have hl56 : wd ≠ wL := streq_f hc56
              refine gskip ?_
              refine hN27 _ _ ?_
              refine gfrom [(2, .pointer _), (3, .pointer _), (4, .pointer _), (5, .pointer _), (7, .int _ _), (8, .string _), (10, .pointer _)] ⟨rfl, rfl, rfl, rfl, rfl, rfl, rfl, trivial⟩ fun σ => ?_
              refine gseq fun N32 hN32 => ?_
              refine greg ?_
              refine gop (y_assign (v := .bool _) rfl) rfl rfl rfl ?_
              refine gops_nil ?_
              refine hN32 _ _ ?_
              refine gfrom [(2, .pointer _), (3, .pointer _), (4, .pointer _), (5, .pointer _), (6, .bool _), (7, .int _ _), (8, .string _), (10, .pointer _)] ⟨rfl, rfl, rfl, rfl, rfl, rfl, rfl, rfl, trivial⟩ fun σ => ?_
              refine gseq fun N33 hN33 => ?_
              refine gseq fun N34 hN34 => ?_
              refine greg ?_
              refine gop (y_move (v := .string _) rfl) rfl rfl rfl ?_
              refine gop (y_eqls rfl rfl) rfl rfl rfl ?_
              refine gops_nil ?_
              refine hN34 _ _ ?_
              refine gfrom [(2, .pointer _), (3, .pointer _), (4, .pointer _), (5, .pointer _), (6, .bool _), (7, .int _ _), (8, .string _), (10, .pointer _), (72, .bool _)] ⟨rfl, rfl, rfl, rfl, rfl, rfl, rfl, rfl, rfl, trivial⟩ fun σ => ?_
              refine gcond (b := _) rfl (fun hc72 => ?_) (fun hc72 => ?_)
              · 
                have h72 : wd = wOwners := streq_t hc72
                subst h72
                refine gseq fun N35 hN35 => ?_
                refine greg ?_
                refine gop (y_move (v := .pointer _) rfl) rfl rfl rfl ?_
                refine gop (y_build (vs := [(0, _)]) (cells := #[_, .int .i64 0, .int .i64 0, .int .i64 0]) rfl (bd47_0 _)) rfl rfl rfl ?_
                refine gops_mem _ weak_pk ?_
                refine gop_does1 0 (fun v r G => ∃ E1 E2 e1 e2, v = .tuple #[] ∧ r = pk (bldE b26 w.heap.size E1 e1 E2 e2 B3 d3 (nodesOf ω ++ [(⟨2, 0, 0, 0⟩ : PN)]) (opsOf ω ++ [((nodesOf ω).length : Int)]) (sq.reverse)) ∧ G = []) (e_call (vs := [.pointer _, .agg #[_, _, _, _]]) Tryd.func34 rfl (by kernel_rfl) rfl) rfl (fun w fr1 hfr hM => (refLeaf_any _ w b26 _ _ _ _ _ _ (nodesOf ω) (opsOf ω) sq.reverse fr1 hM (by omega) (by omega) ((⟨2, 0, 0, 0⟩ : PN))).mono fun _ _ ⟨h1, E1, E2, e1, e2, h2⟩ => ⟨_, _, [], h1, ⟨E1, E2, e1, e2, rfl, rfl, rfl⟩, h2⟩) rfl rfl rfl ?_
                rintro _ _ _ ⟨E1, E2, e1, e2, rfl, rfl, rfl⟩
                refine gops_mem _ weak_unpk ?_
                refine gops_nil ?_
                refine hN35 _ _ ?_
                refine gT [box b2 _, box b3 _, box b24 _, box b26 _, rowl _ _ _ _ _ _, rowl _ _ _ _ _ _, rowl _ _ _ _ _ _, box b10 _] rfl ?_
                refine gfrom [(2, .pointer _), (3, .pointer _), (4, .pointer _), (5, .pointer _), (6, .bool _), (7, .int _ _)] ⟨rfl, rfl, rfl, rfl, rfl, rfl, trivial⟩ fun σ => ?_
                refine gexit ?_
                rw [← (push_leafN 2 0 ω).1, ← (push_leafN 2 0 ω).2]
                refine gnext2 ((false, o, sq, .leaf 2 0 :: ω, us, nextW s (skipW s a0), E1, e1, E2, e2, B3, d3)) (by show us.length < us.length + 1; omega) (hPI.leaf op_owners.symm hrs.after (by simp)) ⟨rfl, rfl, trivial⟩ ⟨rfl, rfl, rfl, rfl, trivial⟩ ⟨_, rfl⟩
              · 
                have h72 : wd ≠ wOwners := streq_f hc72
                refine gskip ?_
                refine hN33 _ _ ?_
                refine gfrom [(2, .pointer _), (3, .pointer _), (4, .pointer _), (5, .pointer _), (6, .bool _), (7, .int _ _), (8, .string _), (10, .pointer _)] ⟨rfl, rfl, rfl, rfl, rfl, rfl, rfl, rfl, trivial⟩ fun σ => ?_
                refine gseq fun N36 hN36 => ?_
                refine gseq fun N37 hN37 => ?_
                refine greg ?_
                refine gop (y_move (v := .string _) rfl) rfl rfl rfl ?_
                refine gop (y_eqls rfl rfl) rfl rfl rfl ?_
                refine gops_nil ?_
                refine hN37 _ _ ?_
                refine gfrom [(2, .pointer _), (3, .pointer _), (4, .pointer _), (5, .pointer _), (6, .bool _), (7, .int _ _), (8, .string _), (10, .pointer _), (77, .bool _)] ⟨rfl, rfl, rfl, rfl, rfl, rfl, rfl, rfl, rfl, trivial⟩ fun σ => ?_
                refine gcond (b := _) rfl (fun hc77 => ?_) (fun hc77 => ?_)
                · 
                  have h77 : wd = wTests := streq_t hc77
                  subst h77
                  refine gseq fun N38 hN38 => ?_
                  refine greg ?_
                  refine gop (y_move (v := .pointer _) rfl) rfl rfl rfl ?_
                  refine gop (y_build (vs := [(0, _)]) (cells := #[_, .int .i64 0, .int .i64 0, .int .i64 0]) rfl (bd47_0 _)) rfl rfl rfl ?_
                  refine gops_mem _ weak_pk ?_
                  refine gop_does1 0 (fun v r G => ∃ E1 E2 e1 e2, v = .tuple #[] ∧ r = pk (bldE b26 w.heap.size E1 e1 E2 e2 B3 d3 (nodesOf ω ++ [(⟨3, 0, 0, 0⟩ : PN)]) (opsOf ω ++ [((nodesOf ω).length : Int)]) (sq.reverse)) ∧ G = []) (e_call (vs := [.pointer _, .agg #[_, _, _, _]]) Tryd.func34 rfl (by kernel_rfl) rfl) rfl (fun w fr1 hfr hM => (refLeaf_any _ w b26 _ _ _ _ _ _ (nodesOf ω) (opsOf ω) sq.reverse fr1 hM (by omega) (by omega) ((⟨3, 0, 0, 0⟩ : PN))).mono fun _ _ ⟨h1, E1, E2, e1, e2, h2⟩ => ⟨_, _, [], h1, ⟨E1, E2, e1, e2, rfl, rfl, rfl⟩, h2⟩) rfl rfl rfl ?_
                  rintro _ _ _ ⟨E1, E2, e1, e2, rfl, rfl, rfl⟩
                  refine gops_mem _ weak_unpk ?_
                  refine gops_nil ?_
                  refine hN38 _ _ ?_
                  refine gT [box b2 _, box b3 _, box b24 _, box b26 _, rowl _ _ _ _ _ _, rowl _ _ _ _ _ _, rowl _ _ _ _ _ _, box b10 _] rfl ?_
                  refine gfrom [(2, .pointer _), (3, .pointer _), (4, .pointer _), (5, .pointer _), (6, .bool _), (7, .int _ _)] ⟨rfl, rfl, rfl, rfl, rfl, rfl, trivial⟩ fun σ => ?_
                  refine gexit ?_
                  rw [← (push_leafN 3 0 ω).1, ← (push_leafN 3 0 ω).2]
                  refine gnext2 ((false, o, sq, .leaf 3 0 :: ω, us, nextW s (skipW s a0), E1, e1, E2, e2, B3, d3)) (by show us.length < us.length + 1; omega) (hPI.leaf op_tests.symm hrs.after (by simp)) ⟨rfl, rfl, trivial⟩ ⟨rfl, rfl, rfl, rfl, trivial⟩ ⟨_, rfl⟩
                · 
                  have h77 : wd ≠ wTests := streq_f hc77
                  refine gskip ?_
                  refine hN36 _ _ ?_
                  refine gfrom [(2, .pointer _), (3, .pointer _), (4, .pointer _), (5, .pointer _), (6, .bool _), (7, .int _ _), (8, .string _), (10, .pointer _)] ⟨rfl, rfl, rfl, rfl, rfl, rfl, rfl, rfl, trivial⟩ fun σ => ?_
                  refine gseq fun N39 hN39 => ?_
                  refine gfrom [(2, .pointer _), (3, .pointer _), (4, .pointer _), (5, .pointer _), (6, .bool _), (7, .int _ _), (8, .string _), (10, .pointer _)] ⟨rfl, rfl, rfl, rfl, rfl, rfl, rfl, rfl, trivial⟩ fun σ => ?_
                  refine gcut3 (Lf := [(2, .pointer _), (3, .pointer _), (4, .pointer _), (5, .pointer _), (6, .bool _), (7, .int _ _), (8, .string _)]) (G := Unit) (fun g => wd = wScore ∨ wd = wUser) (fun g => []) (fun g => []) ⟨rfl, rfl, rfl, rfl, rfl, rfl, rfl, trivial⟩ ?_ ?_
                  ·
                    refine gseq fun N40 hN40 => ?_
                    refine greg ?_
                    refine gop (y_move (v := .string _) rfl) rfl rfl rfl ?_
                    refine gop (y_neqs rfl rfl) rfl rfl rfl ?_
                    refine gop (y_move (v := .bool _) rfl) rfl rfl rfl ?_
                    refine gop_if (want := true) rfl rfl rfl rfl rfl rfl (fun hg83 => ?_) (fun hg83 => ?_)
                    · 
                      have hg83d := hg83
                      refine gop (y_bare (y_move (v := .string _) rfl)) rfl rfl rfl ?_
                      refine gop_on rfl rfl rfl rfl hg83 ?_
                      refine gop (y_bare (y_neqs rfl rfl)) rfl rfl rfl ?_
                      refine gop (y_pick_t (v := .bool _) rfl hg83 rfl) rfl rfl rfl ?_
                      refine gops_nil ?_
                      refine hN40 _ _ ?_
                      refine gfrom [(2, .pointer _), (3, .pointer _), (4, .pointer _), (5, .pointer _), (6, .bool _), (7, .int _ _), (8, .string _), (10, .pointer _), (86, .bool _)] ⟨rfl, rfl, rfl, rfl, rfl, rfl, rfl, rfl, rfl, trivial⟩ fun σ => ?_
                      refine gcond (b := _) rfl (fun hc86 => ?_) (fun hc86 => ?_)
                      · 
                        have hP : parR s = (⟨1, skipW s a0⟩, []) := by
                          refine parR_bad hs2 ?_
                          rw [← hPI.eq, ← hpa]
                          exact op_wbad hn56 hl56 h72 h77 (strne_t hg83) (strne_t hc86)
                        refine gseq fun N41 hN41 => ?_
                        refine greg_e1 [] [(0, room b2 24 1), (1, room b3 28 2)] (by kernel_rfl) ?_
                        refine ge_take 0 (TK := [room b2 24 1, room b3 28 2, box b24 _, box b26 _, rowl _ _ _ _ _ _, rowl _ _ _ _ _ _, rowl _ _ _ _ _ _, box b10 _]) rfl (by kernel_rfl) (by kernel_rfl) (by kernel_rfl) #[false, true, false, false] (by kernel_rfl) rfl (y_build (vs := []) (cells := #[.slice none 0 0]) rfl bd24_) rfl rfl rfl (weak_trans (weak_room 0 rfl rfl) (weak_room 1 rfl rfl)) (listed' := #[true, false, false, false]) rfl ?_
                        refine ge_take 1 (TK := [room b2 24 1, room b3 28 2, box b24 _, box b26 _, rowl _ _ _ _ _ _, rowl _ _ _ _ _ _, rowl _ _ _ _ _ _, box b10 _]) rfl (by kernel_rfl) (by kernel_rfl) (by kernel_rfl) #[true, false, true, false] (by kernel_rfl) rfl (y_loads (cs := [_, _]) Tryd.isAgg28 Tryd.sizeOf28 rfl rfl (cells_box 7 rfl)) rfl rfl rfl (weak_trans (weak_room 0 rfl rfl) (weak_room 1 rfl rfl)) (listed' := #[true, true, false, false]) rfl ?_
                        refine ge_one 2 (k' := 0) (listed' := #[true, true, true, false]) (by kernel_rfl) rfl rfl rfl ?_
                        refine gop_store 0 (v := .agg #[_]) (cs' := #[_]) rfl rfl Tryd.sizeOf24 rfl rfl rfl rfl (Nat.le_of_ble_eq_true rfl) rfl rfl ?_
                        refine gops_nil ?_
                        refine ge_fin (TK := [room b2 24 1, room b3 28 2, box b24 _, box b26 _, rowl _ _ _ _ _ _, rowl _ _ _ _ _ _, rowl _ _ _ _ _ _, box b10 _]) rfl (weak_trans (weak_room 0 rfl rfl) (weak_room 1 rfl rfl)) ?_
                        refine ge_one 3 (k' := 0) (listed' := #[true, true, true, true]) (by kernel_rfl) rfl rfl rfl ?_
                        refine gop_store 1 (v := .agg #[_, _]) (cs' := #[_, _]) rfl rfl Tryd.sizeOf28 rfl rfl rfl rfl (Nat.le_of_ble_eq_true rfl) rfl rfl ?_
                        refine gops_nil ?_
                        refine ge_fin (TK := [room b2 24 1, room b3 28 2, box b24 _, box b26 _, rowl _ _ _ _ _ _, rowl _ _ _ _ _ _, rowl _ _ _ _ _ _, box b10 _]) rfl (weak_trans (weak_room 0 rfl rfl) (weak_room 1 rfl rfl)) ?_
                        refine ge_done (by kernel_rfl) ?_
                        refine hN41 _ _ ?_
                        refine gT [box b2 _, box b3 _, box b24 _, box b26 _, rowl _ _ _ _ _ _, rowl _ _ _ _ _ _, rowl _ _ _ _ _ _, box b10 _] rfl ?_
                        refine gfrom [(2, .pointer _), (3, .pointer _)] ⟨rfl, rfl, trivial⟩ fun σ => ?_
                        refine gret fun w1 hM => ?_
                        refine ⟨_, res2 rfl (rc 0 (cs := [_]) hM rfl rfl Tryd.isAgg24 Tryd.sizeOf24 rfl) (rc 1 (cs := [_, _]) hM rfl rfl Tryd.isAgg28 Tryd.sizeOf28 rfl), ?_⟩
                        rw [hP]
                        exact ⟨_, rfl, hM.low, newL_nil⟩
                      · 
                        have hsu : wd = wScore ∨ wd = wUser := by first | exact .inr (strne_f hc86) | exact .inl (strne_f hg83)
                        refine gskip ?_
                        refine gcut3_end (()) (hsu) trivial ⟨rfl, rfl, rfl, rfl, rfl, rfl, rfl, trivial⟩ ⟨_, rfl⟩
                    · 
                      have hg83d := hg83
                      refine gop_off rfl rfl rfl rfl hg83 rfl rfl ?_
                      refine gop (y_pick_f (v := .bool _) rfl hg83 rfl) rfl rfl rfl ?_
                      refine gops_nil ?_
                      refine hN40 _ _ ?_
                      refine gfrom [(2, .pointer _), (3, .pointer _), (4, .pointer _), (5, .pointer _), (6, .bool _), (7, .int _ _), (8, .string _), (10, .pointer _), (86, .bool _)] ⟨rfl, rfl, rfl, rfl, rfl, rfl, rfl, rfl, rfl, trivial⟩ fun σ => ?_
                      refine gcond (b := _) rfl (fun hc86 => ?_) (fun hc86 => ?_)
                      · 
                        cases hc86
                      · 
                        have hsu : wd = wScore ∨ wd = wUser := by first | exact .inr (strne_f hc86) | exact .inl (strne_f hg83)
                        refine gskip ?_
                        refine gcut3_end (()) (hsu) trivial ⟨rfl, rfl, rfl, rfl, rfl, rfl, rfl, trivial⟩ ⟨_, rfl⟩
                  ·
                    intro g hcut σ
                    refine hN39 _ _ ?_
                    have hsu := hcut
                    have hps2 : PS s (nextW s (skipW s a0)) us := hrs.after
                    have hrs2 := hps2.rs
                    have hpa2 : pos s.size us = skipW s (nextW s (skipW s a0)) := hrs2.pos
                    have hus : (hd us).size ≤ 200 := by
                      rw [← hrs2.hd, ByteArray.size_extract]
                      omega
                    refine gseq fun N42 hN42 => ?_
                    refine greg ?_
                    refine gop (y_assign (v := .int _ _) rfl) rfl rfl rfl ?_
                    refine gops_nil ?_
                    refine hN42 _ _ ?_
                    refine gT [box b2 _, box b3 _, box b24 _, box b26 _, rowl _ _ _ _ _ _, rowl _ _ _ _ _ _, rowl _ _ _ _ _ _, box b10 _] rfl ?_
                    refine gfrom [(2, .pointer _), (3, .pointer _), (4, .pointer _), (5, .pointer _), (6, .bool _), (7, .int _ _), (8, .string _), (11, .int _ _)] ⟨rfl, rfl, rfl, rfl, rfl, rfl, rfl, rfl, trivial⟩ fun σ => ?_
                    refine gseq fun N43 hN43 => ?_
                    refine gfrom [(2, .pointer _), (3, .pointer _), (4, .pointer _), (5, .pointer _), (6, .bool _), (7, .int _ _), (8, .string _), (11, .int _ _)] ⟨rfl, rfl, rfl, rfl, rfl, rfl, rfl, rfl, trivial⟩ fun σ => ?_
                    refine gcut3 (Lf := [(2, .pointer _), (3, .pointer _), (4, .pointer _), (5, .pointer _), (6, .bool _), (7, .int _ _)]) (G := Int) (fun kd => (kd = 1 ∨ kd = 4) ∧ op s.size ((p, wd) :: us) .want sq ω o = op s.size us (.num kd) sq ω o) (fun kd => [(11, .int .i64 kd)]) (fun kd => []) ⟨rfl, rfl, rfl, rfl, rfl, rfl, trivial⟩ ?_ ?_
                    ·
                      refine gseq fun N44 hN44 => ?_
                      refine greg ?_
                      refine gop (y_move (v := .string _) rfl) rfl rfl rfl ?_
                      refine gop (y_eqls rfl rfl) rfl rfl rfl ?_
                      refine gops_nil ?_
                      refine hN44 _ _ ?_
                      refine gfrom [(2, .pointer _), (3, .pointer _), (4, .pointer _), (5, .pointer _), (6, .bool _), (7, .int _ _), (11, .int _ _), (90, .bool _)] ⟨rfl, rfl, rfl, rfl, rfl, rfl, rfl, rfl, trivial⟩ fun σ => ?_
                      refine gcond (b := _) rfl (fun hc90 => ?_) (fun hc90 => ?_)
                      · 
                        obtain ⟨kd, hkd, hkd2⟩ : ∃ kd : Int, 4 = kd ∧ (kd = 1 ∨ kd = 4) := ⟨4, rfl, .inr rfl⟩
                        have hop : op s.size ((p, wd) :: us) .want sq ω o = op s.size us (.num kd) sq ω o := by rw [← hkd, show wd = wUser from streq_t hc90]; exact op_user
                        refine greg ?_
                        refine gop (y_assign (v := .int _ _) rfl) rfl rfl rfl ?_
                        refine gops_nil ?_
                        refine gcut3_end (kd) (⟨hkd2, hop⟩) ⟨(congrArg (Value.int .i64) hkd), trivial⟩ ⟨rfl, rfl, rfl, rfl, rfl, rfl, trivial⟩ ⟨_, rfl⟩
                      · 
                        obtain ⟨kd, hkd, hkd2⟩ : ∃ kd : Int, 1 = kd ∧ (kd = 1 ∨ kd = 4) := ⟨1, rfl, .inl rfl⟩
                        have hop : op s.size ((p, wd) :: us) .want sq ω o = op s.size us (.num kd) sq ω o := by
                          rcases hsu with h9 | h9
                          · rw [← hkd, h9]; exact op_score
                          · exact absurd h9 (streq_f hc90)
                        refine gskip ?_
                        refine gcut3_end (kd) (⟨hkd2, hop⟩) ⟨(congrArg (Value.int .i64) hkd), trivial⟩ ⟨rfl, rfl, rfl, rfl, rfl, rfl, trivial⟩ ⟨_, rfl⟩
                    ·
                      intro kd hcut σ
                      refine hN43 _ _ ?_
                      obtain ⟨hkd2, hop⟩ := hcut
                      refine gseq fun N45 hN45 => ?_
                      refine greg ?_
                      refine gop (y_move (v := .pointer _) rfl) rfl rfl rfl ?_
                      refine gop_does1 2 (fun v r G => v = .tuple #[.string (hd us), .int .i64 (nextW s (skipW s (nextW s (skipW s a0))) : Nat)] ∧ r = box b24 (.cells #[.string s, .int .i64 ((skipW s (nextW s (skipW s a0)) : Nat))] 65) ∧ G = []) (e_call (vs := [.pointer _]) Tryd.func33 rfl (by kernel_rfl) rfl) rfl (fun w fr1 hfr hM => (refPeek_any _ w b24 s fr1 hs _ hps2.le hM).mono fun _ _ ⟨h1, h2⟩ => ⟨_, _, [], h1, ⟨by rw [hps2.rs.hd], rfl, rfl⟩, h2⟩) rfl rfl rfl ?_
                      rintro _ _ _ ⟨rfl, rfl, rfl⟩
                      refine gop (y_move (v := .tuple #[.string _, .int _ _]) rfl) rfl rfl rfl ?_
                      refine gop (y_extract (v := .string _) rfl rfl) rfl rfl rfl ?_
                      refine gop (y_extract (v := .int _ _) rfl rfl) rfl rfl rfl ?_
                      refine gop (y_assign (v := .string _) rfl) rfl rfl rfl ?_
                      refine gop (y_assign (v := .int _ _) rfl) rfl rfl rfl ?_
                      refine gops_nil ?_
                      refine hN45 _ _ ?_
                      refine gT [box b2 _, box b3 _, box b24 _, box b26 _, rowl _ _ _ _ _ _, rowl _ _ _ _ _ _, rowl _ _ _ _ _ _, box b10 _] rfl ?_
                      refine gfrom [(2, .pointer _), (3, .pointer _), (4, .pointer _), (5, .pointer _), (6, .bool _), (7, .int _ _), (11, .int _ _), (12, .string _), (13, .int _ _)] ⟨rfl, rfl, rfl, rfl, rfl, rfl, rfl, rfl, rfl, trivial⟩ fun σ => ?_
                      refine gseq fun N46 hN46 => ?_
                      refine greg ?_
                      refine gop (y_move (v := .string _) rfl) rfl rfl rfl ?_
                      refine gop_pure (e_call (vs := [.string _]) Tryd.func35 rfl (by kernel_rfl) rfl) (fun w hM => refDecimal_any w (hd us) hus) rfl rfl rfl ?_
                      refine gop (y_move (v := .tuple #[.int _ _, .bool _]) rfl) rfl rfl rfl ?_
                      refine gop (y_extract (v := .int _ _) rfl rfl) rfl rfl rfl ?_
                      refine gop (y_extract (v := .bool _) rfl rfl) rfl rfl rfl ?_
                      refine gop (y_assign (v := .int _ _) rfl) rfl rfl rfl ?_
                      refine gop (y_assign (v := .bool _) rfl) rfl rfl rfl ?_
                      refine gops_nil ?_
                      refine hN46 _ _ ?_
                      refine gfrom [(2, .pointer _), (3, .pointer _), (4, .pointer _), (5, .pointer _), (6, .bool _), (7, .int _ _), (11, .int _ _), (13, .int _ _), (14, .int _ _), (15, .bool _)] ⟨rfl, rfl, rfl, rfl, rfl, rfl, rfl, rfl, rfl, rfl, trivial⟩ fun σ => ?_
                      refine gseq fun N47 hN47 => ?_
                      refine gseq fun N48 hN48 => ?_
                      refine greg ?_
                      refine gop (y_move (v := .bool _) rfl) rfl rfl rfl ?_
                      refine gop (y_not rfl) rfl rfl rfl ?_
                      refine gops_nil ?_
                      refine hN48 _ _ ?_
                      refine gfrom [(2, .pointer _), (3, .pointer _), (4, .pointer _), (5, .pointer _), (6, .bool _), (7, .int _ _), (11, .int _ _), (13, .int _ _), (14, .int _ _), (102, .bool _)] ⟨rfl, rfl, rfl, rfl, rfl, rfl, rfl, rfl, rfl, rfl, trivial⟩ fun σ => ?_
                      refine gcond (b := _) rfl (fun hc102 => ?_) (fun hc102 => ?_)
                      · 
                        replace hc102 := not_t hc102
                        have hnv : numV (hd us) = none := by
                          cases h9 : numV (hd us) with
                          | none => rfl
                          | some n => rw [h9] at hc102; simp at hc102
                        have hP : parR s = (⟨1, skipW s (nextW s (skipW s a0))⟩, []) := by
                          refine parR_bad hs2 ?_
                          rw [← hPI.eq, ← hpa2]
                          exact hop.trans (op_numbad hnv)
                        refine gseq fun N49 hN49 => ?_
                        refine greg ?_
                        refine gop (y_build (vs := []) (cells := #[.slice none 0 0]) rfl bd24_) rfl rfl rfl ?_
                        refine gop (y_move (v := .pointer _) rfl) rfl rfl rfl ?_
                        refine gop (y_nilCheck rfl) rfl rfl rfl ?_
                        refine gop (y_fieldAddr_box fa65_1 rfl) rfl rfl rfl ?_
                        refine gop (y_load Tryd.isAgg3 rfl (cell_box 2 rfl rfl)) rfl rfl rfl ?_
                        refine gop_pure (e_call (vs := [_, .int _ _]) Tryd.func16 rfl (by kernel_rfl) rfl) (fun w hM => fault_any w _ _) rfl rfl rfl ?_
                        refine gop_store 0 (v := .agg #[_]) (cs' := #[_]) rfl rfl Tryd.sizeOf24 rfl rfl rfl rfl (Nat.le_of_ble_eq_true rfl) rfl rfl ?_
                        refine gop_store 1 (v := .agg #[_, _]) (cs' := #[_, _]) rfl rfl Tryd.sizeOf28 rfl rfl rfl rfl (Nat.le_of_ble_eq_true rfl) rfl rfl ?_
                        refine gops_nil ?_
                        refine hN49 _ _ ?_
                        refine gT [box b2 _, box b3 _, box b24 _, box b26 _, rowl _ _ _ _ _ _, rowl _ _ _ _ _ _, rowl _ _ _ _ _ _, box b10 _] rfl ?_
                        refine gfrom [(2, .pointer _), (3, .pointer _)] ⟨rfl, rfl, trivial⟩ fun σ => ?_
                        refine gret fun w1 hM => ?_
                        refine ⟨_, res2 rfl (rc 0 (cs := [_]) hM rfl rfl Tryd.isAgg24 Tryd.sizeOf24 rfl) (rc 1 (cs := [_, _]) hM rfl rfl Tryd.isAgg28 Tryd.sizeOf28 rfl), ?_⟩
                        rw [hP]
                        exact ⟨_, rfl, hM.low, newL_nil⟩
                      · 
                        replace hc102 := not_f hc102
                        obtain ⟨n, hnv⟩ : ∃ n, numV (hd us) = some n := by
                          cases h9 : numV (hd us) with
                          | none => rw [h9] at hc102; simp at hc102
                          | some n => exact ⟨n, rfl⟩
                        obtain ⟨hdm, hdn⟩ := decN_most hnv hkd2
                        refine gskip ?_
                        refine hN47 _ _ ?_
                        refine gfrom [(2, .pointer _), (3, .pointer _), (4, .pointer _), (5, .pointer _), (6, .bool _), (7, .int _ _), (11, .int _ _), (13, .int _ _), (14, .int _ _)] ⟨rfl, rfl, rfl, rfl, rfl, rfl, rfl, rfl, rfl, trivial⟩ fun σ => ?_
                        refine gseq fun N50 hN50 => ?_
                        refine gseq fun N51 hN51 => ?_
                        refine greg ?_
                        refine gop (y_move (v := .int _ _) rfl) rfl rfl rfl ?_
                        refine gop (y_move (v := .int _ _) rfl) rfl rfl rfl ?_
                        refine gop_pure (e_call (vs := [.int _ _]) Tryd.func36 rfl (by kernel_rfl) rfl) (fun w hM => refMost_any w _) rfl rfl rfl ?_
                        refine gop (y_gtr rfl rfl) rfl rfl rfl ?_
                        refine gops_nil ?_
                        refine hN51 _ _ ?_
                        refine gfrom [(2, .pointer _), (3, .pointer _), (4, .pointer _), (5, .pointer _), (6, .bool _), (7, .int _ _), (11, .int _ _), (13, .int _ _), (14, .int _ _), (112, .bool _)] ⟨rfl, rfl, rfl, rfl, rfl, rfl, rfl, rfl, rfl, rfl, trivial⟩ fun σ => ?_
                        refine gcond (b := _) rfl (fun hc112 => ?_) (fun hc112 => ?_)
                        · 
                          replace hc112 := of_decide_eq_true hc112
                          have hP : parR s = (⟨3, skipW s (nextW s (skipW s a0))⟩, []) := by
                            refine parR_bad hs2 ?_
                            rw [← hPI.eq, ← hpa2]
                            exact hop.trans (op_numrange hnv (hdm.1 hc112))
                          refine gseq fun N52 hN52 => ?_
                          refine greg ?_
                          refine gop (y_build (vs := []) (cells := #[.slice none 0 0]) rfl bd24_) rfl rfl rfl ?_
                          refine gop (y_move (v := .pointer _) rfl) rfl rfl rfl ?_
                          refine gop (y_nilCheck rfl) rfl rfl rfl ?_
                          refine gop (y_fieldAddr_box fa65_1 rfl) rfl rfl rfl ?_
                          refine gop (y_load Tryd.isAgg3 rfl (cell_box 2 rfl rfl)) rfl rfl rfl ?_
                          refine gop_pure (e_call (vs := [_, .int _ _]) Tryd.func16 rfl (by kernel_rfl) rfl) (fun w hM => fault_any w _ _) rfl rfl rfl ?_
                          refine gop_store 0 (v := .agg #[_]) (cs' := #[_]) rfl rfl Tryd.sizeOf24 rfl rfl rfl rfl (Nat.le_of_ble_eq_true rfl) rfl rfl ?_
                          refine gop_store 1 (v := .agg #[_, _]) (cs' := #[_, _]) rfl rfl Tryd.sizeOf28 rfl rfl rfl rfl (Nat.le_of_ble_eq_true rfl) rfl rfl ?_
                          refine gops_nil ?_
                          refine hN52 _ _ ?_
                          refine gT [box b2 _, box b3 _, box b24 _, box b26 _, rowl _ _ _ _ _ _, rowl _ _ _ _ _ _, rowl _ _ _ _ _ _, box b10 _] rfl ?_
                          refine gfrom [(2, .pointer _), (3, .pointer _)] ⟨rfl, rfl, trivial⟩ fun σ => ?_
                          refine gret fun w1 hM => ?_
                          refine ⟨_, res2 rfl (rc 0 (cs := [_]) hM rfl rfl Tryd.isAgg24 Tryd.sizeOf24 rfl) (rc 1 (cs := [_, _]) hM rfl rfl Tryd.isAgg28 Tryd.sizeOf28 rfl), ?_⟩
                          rw [hP]
                          exact ⟨_, rfl, hM.low, newL_nil⟩
                        · 
                          replace hc112 := of_decide_eq_false hc112
                          have hnr : ¬ (n < 0 ∨ mostN kd < n) := fun h9 => hc112 (hdm.2 h9)
                          have hdn2 := hdn hnr
                          refine gskip ?_
                          refine hN50 _ _ ?_
                          refine gfrom [(2, .pointer _), (3, .pointer _), (4, .pointer _), (5, .pointer _), (6, .bool _), (7, .int _ _), (11, .int _ _), (13, .int _ _), (14, .int _ _)] ⟨rfl, rfl, rfl, rfl, rfl, rfl, rfl, rfl, rfl, trivial⟩ fun σ => ?_
                          refine gseq fun N53 hN53 => ?_
                          refine greg ?_
                          refine gop (y_move (v := .pointer _) rfl) rfl rfl rfl ?_
                          refine gop (y_move (v := .int _ _) rfl) rfl rfl rfl ?_
                          refine gop (y_nilCheck rfl) rfl rfl rfl ?_
                          refine gop (y_fieldAddr_box fa65_1 rfl) rfl rfl rfl ?_
                          refine gop_store 2 (v := .int _ _) (cs' := #[_, _]) rfl rfl Tryd.sizeOf3 rfl rfl rfl rfl (Nat.le_of_ble_eq_true rfl) rfl rfl ?_
                          refine gops_nil ?_
                          refine hN53 _ _ ?_
                          refine gT [box b2 _, box b3 _, box b24 _, box b26 _, rowl _ _ _ _ _ _, rowl _ _ _ _ _ _, rowl _ _ _ _ _ _, box b10 _] rfl ?_
                          refine gfrom [(2, .pointer _), (3, .pointer _), (4, .pointer _), (5, .pointer _), (6, .bool _), (7, .int _ _), (11, .int _ _), (14, .int _ _)] ⟨rfl, rfl, rfl, rfl, rfl, rfl, rfl, rfl, trivial⟩ fun σ => ?_
                          refine gseq fun N54 hN54 => ?_
                          refine greg ?_
                          refine gop (y_move (v := .pointer _) rfl) rfl rfl rfl ?_
                          refine gop (y_move (v := .int _ _) rfl) rfl rfl rfl ?_
                          refine gop (y_move (v := .int _ _) rfl) rfl rfl rfl ?_
                          refine gop (y_build (vs := [(0, .int _ _), (1, .int _ _)]) (cells := #[_, _, .int .i64 0, .int .i64 0]) rfl (bd47_0_1 _ _)) rfl rfl rfl ?_
                          refine gops_mem _ weak_pk ?_
                          refine gop_does1 0 (fun v r G => ∃ E1 E2 e1 e2, v = .tuple #[] ∧ r = pk (bldE b26 w.heap.size E1 e1 E2 e2 B3 d3 (nodesOf ω ++ [(⟨kd, decN (hd us), 0, 0⟩ : PN)]) (opsOf ω ++ [((nodesOf ω).length : Int)]) (sq.reverse)) ∧ G = []) (e_call (vs := [.pointer _, .agg #[_, _, _, _]]) Tryd.func34 rfl (by kernel_rfl) rfl) rfl (fun w fr1 hfr hM => (refLeaf_any _ w b26 _ _ _ _ _ _ (nodesOf ω) (opsOf ω) sq.reverse fr1 hM (by omega) (by omega) ((⟨kd, decN (hd us), 0, 0⟩ : PN))).mono fun _ _ ⟨h1, E1, E2, e1, e2, h2⟩ => ⟨_, _, [], h1, ⟨E1, E2, e1, e2, rfl, rfl, rfl⟩, h2⟩) rfl rfl rfl ?_
                          rintro _ _ _ ⟨E1, E2, e1, e2, rfl, rfl, rfl⟩
                          refine gops_mem _ weak_unpk ?_
                          refine gops_nil ?_
                          refine hN54 _ _ ?_
                          refine gT [box b2 _, box b3 _, box b24 _, box b26 _, rowl _ _ _ _ _ _, rowl _ _ _ _ _ _, rowl _ _ _ _ _ _, box b10 _] rfl ?_
                          refine gfrom [(2, .pointer _), (3, .pointer _), (4, .pointer _), (5, .pointer _), (6, .bool _), (7, .int _ _)] ⟨rfl, rfl, rfl, rfl, rfl, rfl, trivial⟩ fun σ => ?_
                          refine gexit ?_
                          rw [hdn2, ← (push_leafN kd n ω).1, ← (push_leafN kd n ω).2]
                          refine gnext2 ((false, o, sq, .leaf kd n :: ω, us.tail, nextW s (skipW s (nextW s (skipW s a0))), E1, e1, E2, e2, B3, d3)) (by show us.tail.length < us.length + 1; rw [List.length_tail]; omega) (hPI.leaf ((hop.trans (op_numok hnv hnr)).symm) hrs2.after (by simp)) ⟨rfl, rfl, trivial⟩ ⟨rfl, rfl, rfl, rfl, trivial⟩ ⟨_, rfl⟩
          · 
            have hg53d := hg53
            refine gop_off rfl rfl rfl rfl hg53 rfl rfl ?_
            refine gop (y_pick_t (v := .bool _) rfl hg53 rfl) rfl rfl rfl ?_
            refine gops_nil ?_
            refine hN28 _ _ ?_
            refine gfrom [(2, .pointer _), (3, .pointer _), (4, .pointer _), (5, .pointer _), (6, .bool _), (7, .int _ _), (8, .string _), (10, .pointer _), (56, .bool _)] ⟨rfl, rfl, rfl, rfl, rfl, rfl, rfl, rfl, rfl, trivial⟩ fun σ => ?_
            refine gcond (b := _) rfl (fun hc56 => ?_) (fun hc56 => ?_)
            · 
              have hw56 : wd = wNot ∨ wd = wL := by first | exact .inr (streq_t hc56) | exact .inl (streq_t hg53)
              refine gseq fun N55 hN55 => ?_
              refine greg ?_
              refine gop (y_move (v := .pointer _) rfl) rfl rfl rfl ?_
              refine gop (y_move (v := .pointer _) rfl) rfl rfl rfl ?_
              refine gop (y_nilCheck rfl) rfl rfl rfl ?_
              refine gop (y_fieldAddr_box fa69_2 rfl) rfl rfl rfl ?_
              refine gop (y_load Tryd.isAgg67 rfl (cell_box 3 rfl rfl)) rfl rfl rfl ?_
              refine gop (y_move (v := .string _) rfl) rfl rfl rfl ?_
              refine gop_lit (vs := [.string _]) (cells := #[_]) Tryd.underlying67 Tryd.sizeOf9 Tryd.zeroValue9 rfl (by decide) (by decide) rfl rfl rfl rfl (fun b63 hb63 => ?_)
              refine gop_append 6 (f := strCells) (l2 := [wd]) Tryd.underlying67 el9 wide_str (v := .slice _ _ _) rfl rfl rfl rfl (fun h => by cases h) (by simp [maxLen]; omega) (by simp; omega) (src_box 8 rfl rfl) rfl (fun v64 => ?_)
              refine gops_fact (fun w hM => own_form (hM.own 6 rfl)) ?_
              rintro ⟨A64, c64, rfl, hc64, hm64⟩
              refine gop (y_nilCheck rfl) rfl rfl rfl ?_
              refine gop (y_fieldAddr_box fa69_2 rfl) rfl rfl rfl ?_
              refine gop_store 3 (v := .slice A64 _ c64) (cs' := #[_, _, _]) rfl rfl Tryd.sizeOf67 rfl rfl rfl rfl (Nat.le_of_ble_eq_true rfl) rfl rfl ?_
              refine gops_nil ?_
              refine hN55 _ _ ?_
              refine gT [box b2 _, box b3 _, box b24 _, box b26 _, rowl _ _ _ _ _ _, rowl _ _ _ _ _ _, rowl _ _ _ _ _ _, box b10 _, box b63 _] rfl ?_
              refine gfrom [(2, .pointer _), (3, .pointer _), (4, .pointer _), (5, .pointer _), (6, .bool _), (7, .int _ _), (8, .string _)] ⟨rfl, rfl, rfl, rfl, rfl, rfl, rfl, trivial⟩ fun σ => ?_
              refine gseq fun N56 hN56 => ?_
              refine gseq fun N57 hN57 => ?_
              refine greg ?_
              refine gop (y_move (v := .string _) rfl) rfl rfl rfl ?_
              refine gop (y_eqls rfl rfl) rfl rfl rfl ?_
              refine gops_nil ?_
              refine hN57 _ _ ?_
              refine gfrom [(2, .pointer _), (3, .pointer _), (4, .pointer _), (5, .pointer _), (6, .bool _), (7, .int _ _), (68, .bool _)] ⟨rfl, rfl, rfl, rfl, rfl, rfl, rfl, trivial⟩ fun σ => ?_
              refine gcond (b := _) rfl (fun hc68 => ?_) (fun hc68 => ?_)
              · 
                have h68 : wd = wL := streq_t hc68
                have ho68 : ((o : Int) + 1) = ((if wd = wL then o + 1 else o : Nat) : Int) := by rw [if_pos h68]; rfl
                refine greg ?_
                refine gop (y_move (v := .int _ _) rfl) rfl rfl rfl ?_
                refine gop (y_add rfl rfl ⟨by omega, by omega⟩) rfl rfl rfl ?_
                refine gop (y_assign (v := .int _ _) rfl) rfl rfl rfl ?_
                refine gops_nil ?_
                refine hN56 _ _ ?_
                refine gfrom [(2, .pointer _), (3, .pointer _), (4, .pointer _), (5, .pointer _), (6, .bool _), (7, .int _ _)] ⟨rfl, rfl, rfl, rfl, rfl, rfl, trivial⟩ fun σ => ?_
                refine gexit ?_
                rw [← List.reverse_cons]
                refine gnext2 ((true, (if wd = wL then o + 1 else o), wd :: sq, ω, us, nextW s (skipW s a0), B1, d1, B2, d2, A64, c64)) (by show us.length < us.length + 1; omega) (hPI.sign hw56 hrs.after) ⟨rfl, (congrArg (Value.int .i64) ho68), trivial⟩ ⟨rfl, rfl, rfl, rfl, trivial⟩ ⟨_, rfl⟩
              · 
                have h68 : wd ≠ wL := streq_f hc68
                have ho68 : (o : Int) = ((if wd = wL then o + 1 else o : Nat) : Int) := by rw [if_neg h68]
                refine gskip ?_
                refine hN56 _ _ ?_
                refine gfrom [(2, .pointer _), (3, .pointer _), (4, .pointer _), (5, .pointer _), (6, .bool _), (7, .int _ _)] ⟨rfl, rfl, rfl, rfl, rfl, rfl, trivial⟩ fun σ => ?_
                refine gexit ?_
                rw [← List.reverse_cons]
                refine gnext2 ((true, (if wd = wL then o + 1 else o), wd :: sq, ω, us, nextW s (skipW s a0), B1, d1, B2, d2, A64, c64)) (by show us.length < us.length + 1; omega) (hPI.sign hw56 hrs.after) ⟨rfl, (congrArg (Value.int .i64) ho68), trivial⟩ ⟨rfl, rfl, rfl, rfl, trivial⟩ ⟨_, rfl⟩
            · 
              cases hc56
        · 
          obtain rfl : wt = false := by simpa using hc50
          have hbn1 : bins sq + 1 ≤ ω.length := by have h9 := hPI.bn; simp at h9; omega
          refine gskip ?_
          refine hN25 _ _ ?_
          refine gfrom [(2, .pointer _), (3, .pointer _), (4, .pointer _), (5, .pointer _), (6, .bool _), (7, .int _ _), (8, .string _), (10, .pointer _)] ⟨rfl, rfl, rfl, rfl, rfl, rfl, rfl, rfl, trivial⟩ fun σ => ?_
          refine gseq fun N58 hN58 => ?_
          refine gseq fun N59 hN59 => ?_
          refine greg ?_
          refine gop (y_move (v := .string _) rfl) rfl rfl rfl ?_
          refine gop (y_eqls rfl rfl) rfl rfl rfl ?_
          refine gop (y_move (v := .bool _) rfl) rfl rfl rfl ?_
          refine gop_if (want := true) rfl rfl rfl rfl rfl rfl (fun hg130 => ?_) (fun hg130 => ?_)
          · 
            have hg130d := hg130
            refine gop (y_bare (y_move (v := .int _ _) rfl)) rfl rfl rfl ?_
            refine gop_on rfl rfl rfl rfl hg130 ?_
            refine gop (y_bare (y_gtr rfl rfl)) rfl rfl rfl ?_
            refine gop (y_pick_t (v := .bool _) rfl hg130 rfl) rfl rfl rfl ?_
            refine gops_nil ?_
            refine hN59 _ _ ?_
            refine gfrom [(2, .pointer _), (3, .pointer _), (4, .pointer _), (5, .pointer _), (6, .bool _), (7, .int _ _), (8, .string _), (10, .pointer _), (133, .bool _)] ⟨rfl, rfl, rfl, rfl, rfl, rfl, rfl, rfl, rfl, trivial⟩ fun σ => ?_
            refine gcond (b := _) rfl (fun hc133 => ?_) (fun hc133 => ?_)
            · 
              replace hc133 := of_decide_eq_true hc133
              have h133 : wd = wR := streq_t hg130
              have ho133 : 0 < o := by omega
              subst h133
              obtain ⟨sq1, hsq1, hPI2⟩ := hPI.close ho133 hrs.after
              have hrl : (wL :: sq1).reverse.length = sq1.length + 1 := by simp
              have hrl1 : sq1.reverse.length = sq1.length := List.length_reverse
              have hri := (red_inv (Nat.le_refl 1) sq ω (by have h9 := hPI.bn; simpa using h9)).2.2
              rw [hsq1, List.length_cons] at hri
              refine gseq fun N60 hN60 => ?_
              refine greg ?_
              refine gop (y_move (v := .pointer _) rfl) rfl rfl rfl ?_
              refine gops_mem _ weak_pk ?_
              refine gop_does1 0 (fun v r G => ∃ E1 E2 E3 e1 e2 e3, v = .tuple #[] ∧ r = pk (bldE b26 w.heap.size E1 e1 E2 e2 E3 e3 (nodesOf (redW 1 sq ω).2) (opsOf (redW 1 sq ω).2) ((wL :: sq1).reverse)) ∧ G = []) (e_call (vs := [.pointer _, _]) Tryd.func37 rfl (by kernel_rfl) rfl) rfl (fun w fr1 hfr hM => by
  have hc := refReduce_any _ w b26 _ _ _ _ _ _ ω sq fr1 hM hbn1 (by omega) _ 1 rfl (by first | omega | exact hrw1)
  rw [hsq1] at hc
  exact hc.mono fun _ _ ⟨h1, E1, E2, E3, e1, e2, e3, h2⟩ => ⟨_, _, [], h1, ⟨E1, E2, E3, e1, e2, e3, rfl, rfl, rfl⟩, h2⟩) rfl rfl rfl ?_
              rintro _ _ _ ⟨E1, E2, E3, e1, e2, e3, rfl, rfl, rfl⟩
              refine gops_mem _ weak_unpk ?_
              refine gops_fact (fun w hM => row_fresh (hM.ok _ (List.mem_of_getElem? (i := 6) rfl))) ?_
              rintro ⟨hf135, -⟩
              refine gops_fact (fun w hM => row_form (hM.ok _ (List.mem_of_getElem? (i := 6) rfl))) ?_
              rintro ⟨xA, xc, hxv, hc135, -, -⟩
              simp only [Value.slice.injEq] at hxv
              obtain ⟨rfl, -, rfl⟩ := hxv
              refine gops_nil ?_
              refine hN60 _ _ ?_
              refine gT [box b2 _, box b3 _, box b24 _, box b26 _, rowl _ _ _ _ _ _, rowl _ _ _ _ _ _, rowl _ _ _ _ _ _, box b10 _] rfl ?_
              refine gfrom [(2, .pointer _), (3, .pointer _), (4, .pointer _), (5, .pointer _), (6, .bool _), (7, .int _ _)] ⟨rfl, rfl, rfl, rfl, rfl, rfl, trivial⟩ fun σ => ?_
              refine gseq fun N61 hN61 => ?_
              refine greg_e0 [14] (by kernel_rfl) ?_
              refine ge_take 0 (TK := [box b2 _, box b3 _, box b24 _, box b26 _, rowl _ _ _ _ _ _, rowl _ _ _ _ _ _, rowl _ _ _ _ _ _, box b10 _]) rfl (by kernel_rfl) (by kernel_rfl) (by kernel_rfl) #[false, true, true, true, true, true, true, true, true, true, true, true, false, false, false] (by kernel_rfl) rfl (y_move (v := .pointer _) rfl) rfl rfl rfl (weak_refl) (listed' := #[true, false, false, false, false, false, false, false, false, false, false, false, false, false, false]) rfl ?_
              refine ge_take 1 (TK := [box b2 _, box b3 _, box b24 _, box b26 _, rowl _ _ _ _ _ _, rowl _ _ _ _ _ _, rowl _ _ _ _ _ _, box b10 _]) rfl (by kernel_rfl) (by kernel_rfl) (by kernel_rfl) #[true, false, false, false, false, true, true, true, true, true, true, false, false, false, false] (by kernel_rfl) rfl (y_move (v := .pointer _) rfl) rfl rfl rfl (weak_refl) (listed' := #[true, true, false, false, false, false, false, false, false, false, false, false, false, false, false]) rfl ?_
              refine ge_take 2 (TK := [box b2 _, box b3 _, box b24 _, box b26 _, rowl _ _ _ _ _ _, rowl _ _ _ _ _ _, rowl _ _ _ _ _ _, box b10 _]) rfl (by kernel_rfl) (by kernel_rfl) (by kernel_rfl) #[true, true, false, false, false, true, true, true, true, true, true, false, false, false, false] (by kernel_rfl) rfl (y_nilCheck rfl) rfl rfl rfl (weak_refl) (listed' := #[true, true, true, false, false, false, false, false, false, false, false, false, false, false, false]) rfl ?_
              refine ge_take 3 (TK := [box b2 _, box b3 _, box b24 _, box b26 _, rowl _ _ _ _ _ _, rowl _ _ _ _ _ _, rowl _ _ _ _ _ _, box b10 _]) rfl (by kernel_rfl) (by kernel_rfl) (by kernel_rfl) #[true, true, true, false, false, true, true, true, true, true, true, false, false, false, false] (by kernel_rfl) rfl (y_fieldAddr_box fa69_2 rfl) rfl rfl rfl (weak_refl) (listed' := #[true, true, true, true, false, false, false, false, false, false, false, false, false, false, false]) rfl ?_
              refine ge_take 4 (TK := [box b2 _, box b3 _, box b24 _, box b26 _, rowl _ _ _ _ _ _, rowl _ _ _ _ _ _, rowl _ _ _ _ _ _, box b10 _]) rfl (by kernel_rfl) (by kernel_rfl) (by kernel_rfl) #[true, true, true, true, false, true, true, true, true, true, true, false, false, false, false] (by kernel_rfl) rfl (y_load Tryd.isAgg67 rfl (cell_box 3 rfl rfl)) rfl rfl rfl (weak_refl) (listed' := #[true, true, true, true, true, false, false, false, false, false, false, false, false, false, false]) rfl ?_
              refine ge_take 5 (TK := [box b2 _, box b3 _, box b24 _, box b26 _, rowl _ _ _ _ _ _, rowl _ _ _ _ _ _, rowl _ _ _ _ _ _, box b10 _]) rfl (by kernel_rfl) (by kernel_rfl) (by kernel_rfl) #[true, true, true, true, true, false, false, false, false, false, false, false, false, false, false] (by kernel_rfl) rfl (y_move (v := .pointer _) rfl) rfl rfl rfl (weak_refl) (listed' := #[true, true, true, true, true, true, false, false, false, false, false, false, false, false, false]) rfl ?_
              refine ge_take 6 (TK := [box b2 _, box b3 _, box b24 _, box b26 _, rowl _ _ _ _ _ _, rowl _ _ _ _ _ _, rowl _ _ _ _ _ _, box b10 _]) rfl (by kernel_rfl) (by kernel_rfl) (by kernel_rfl) #[true, true, true, true, true, true, false, false, false, false, false, false, false, false, false] (by kernel_rfl) rfl (y_nilCheck rfl) rfl rfl rfl (weak_refl) (listed' := #[true, true, true, true, true, true, true, false, false, false, false, false, false, false, false]) rfl ?_
              refine ge_take 7 (TK := [box b2 _, box b3 _, box b24 _, box b26 _, rowl _ _ _ _ _ _, rowl _ _ _ _ _ _, rowl _ _ _ _ _ _, box b10 _]) rfl (by kernel_rfl) (by kernel_rfl) (by kernel_rfl) #[true, true, true, true, true, true, true, false, false, false, false, false, false, false, false] (by kernel_rfl) rfl (y_fieldAddr_box fa69_2 rfl) rfl rfl rfl (weak_refl) (listed' := #[true, true, true, true, true, true, true, true, false, false, false, false, false, false, false]) rfl ?_
              refine ge_take 8 (TK := [box b2 _, box b3 _, box b24 _, box b26 _, rowl _ _ _ _ _ _, rowl _ _ _ _ _ _, rowl _ _ _ _ _ _, box b10 _]) rfl (by kernel_rfl) (by kernel_rfl) (by kernel_rfl) #[true, true, true, true, true, true, true, true, false, false, false, false, false, false, false] (by kernel_rfl) rfl (y_load Tryd.isAgg67 rfl (cell_box 3 rfl rfl)) rfl rfl rfl (weak_refl) (listed' := #[true, true, true, true, true, true, true, true, true, false, false, false, false, false, false]) rfl ?_
              refine ge_take 9 (TK := [box b2 _, box b3 _, box b24 _, box b26 _, rowl _ _ _ _ _ _, rowl _ _ _ _ _ _, rowl _ _ _ _ _ _, box b10 _]) rfl (by kernel_rfl) (by kernel_rfl) (by kernel_rfl) #[true, true, true, true, true, true, true, true, true, false, false, false, false, false, false] (by kernel_rfl) rfl (y_len Tryd.underlying67 rfl) rfl rfl rfl (weak_refl) (listed' := #[true, true, true, true, true, true, true, true, true, true, false, false, false, false, false]) rfl ?_
              refine ge_take 10 (TK := [box b2 _, box b3 _, box b24 _, box b26 _, rowl _ _ _ _ _ _, rowl _ _ _ _ _ _, rowl _ _ _ _ _ _, box b10 _]) rfl (by kernel_rfl) (by kernel_rfl) (by kernel_rfl) #[true, true, true, true, true, true, true, true, true, true, false, false, false, false, false] (by kernel_rfl) rfl (y_sub rfl rfl ⟨by omega, by omega⟩) rfl rfl rfl (weak_refl) (listed' := #[true, true, true, true, true, true, true, true, true, true, true, false, false, false, false]) rfl ?_
              refine ge_take 11 (TK := [box b2 _, box b3 _, box b24 _, box b26 _, rowl _ _ _ _ _ _, rowl _ _ _ _ _ _, rowl _ _ _ _ _ _, box b10 _]) rfl (by kernel_rfl) (by kernel_rfl) (by kernel_rfl) #[true, true, true, true, true, true, true, true, true, true, true, false, false, false, false] (by kernel_rfl) rfl (y_trunc0 (m := sq1.reverse.length) hf135 Tryd.underlying67 Tryd.sizeOf9 rfl rfl (by omega) (by omega) (by omega)) rfl rfl rfl (weak_refl) (listed' := #[true, true, true, true, true, true, true, true, true, true, true, true, false, false, false]) rfl ?_
              refine ge_take 12 (TK := [box b2 _, box b3 _, box b24 _, box b26 _, rowl _ _ _ _ _ _, rowl _ _ _ _ _ _, rowl _ _ _ _ _ _, box b10 _]) rfl (by kernel_rfl) (by kernel_rfl) (by kernel_rfl) #[true, true, true, true, true, true, true, true, true, true, true, true, false, false, false] (by kernel_rfl) rfl (y_nilCheck rfl) rfl rfl rfl (weak_refl) (listed' := #[true, true, true, true, true, true, true, true, true, true, true, true, true, false, false]) rfl ?_
              refine ge_take 13 (TK := [box b2 _, box b3 _, box b24 _, box b26 _, rowl _ _ _ _ _ _, rowl _ _ _ _ _ _, rowl _ _ _ _ _ _, box b10 _]) rfl (by kernel_rfl) (by kernel_rfl) (by kernel_rfl) #[true, true, true, true, true, true, true, true, true, true, true, true, true, false, false] (by kernel_rfl) rfl (y_fieldAddr_box fa69_2 rfl) rfl rfl rfl (weak_refl) (listed' := #[true, true, true, true, true, true, true, true, true, true, true, true, true, true, false]) rfl ?_
              refine ge_one 14 (k' := 1) (listed' := #[true, true, true, true, true, true, true, true, true, true, true, true, true, true, true]) (by kernel_rfl) rfl rfl rfl ?_
              refine gop_store 3 (v := .slice E3 _ e3) (cs' := #[_, _, _]) rfl rfl Tryd.sizeOf67 rfl rfl rfl rfl (Nat.le_of_ble_eq_true rfl) rfl rfl ?_
              refine gops_nil ?_
              refine ge_fin (TK := []) rfl (weak_nil) ?_
              refine ge_done (by kernel_rfl) ?_
              refine hN61 _ _ ?_
              refine gT [box b2 _, box b3 _, box b24 _, box b26 _, rowl _ _ _ _ _ _, rowl _ _ _ _ _ _, rowl _ _ _ _ _ _, box b10 _] rfl ?_
              refine gfrom [(2, .pointer _), (3, .pointer _), (4, .pointer _), (5, .pointer _), (6, .bool _), (7, .int _ _)] ⟨rfl, rfl, rfl, rfl, rfl, rfl, trivial⟩ fun σ => ?_
              refine gseq fun N62 hN62 => ?_
              refine greg ?_
              refine gop (y_move (v := .int _ _) rfl) rfl rfl rfl ?_
              refine gops_mem _ (weak_trunc0 6 (f := strCells) (l := sq1.reverse) (m := [wL]) hf135 (by rw [← List.reverse_cons]; rfl) (fun _ => rfl)) ?_
              refine gop (y_sub rfl rfl ⟨by omega, by omega⟩) rfl rfl rfl ?_
              refine gop (y_assign (v := .int _ _) rfl) rfl rfl rfl ?_
              refine gops_nil ?_
              refine hN62 _ _ ?_
              refine gfrom [(2, .pointer _), (3, .pointer _), (4, .pointer _), (5, .pointer _), (6, .bool _), (7, .int _ _)] ⟨rfl, rfl, rfl, rfl, rfl, rfl, trivial⟩ fun σ => ?_
              refine gexit ?_
              refine gnext2 ((false, o - 1, sq1, (redW 1 sq ω).2, us, nextW s (skipW s a0), E1, e1, E2, e2, E3, e3)) (by show us.length < us.length + 1; omega) (hPI2) ⟨rfl, (congrArg (Value.int .i64) (by omega)), trivial⟩ ⟨rfl, rfl, rfl, rfl, trivial⟩ ⟨_, rfl⟩
            · 
              replace hc133 := of_decide_eq_false hc133
              have h133 : ¬ (wd = wR ∧ 0 < o) := by
                rintro ⟨h9, h8⟩
                first
                | omega
                | exact streq_f hg130 h9
              refine gskip ?_
              refine hN58 _ _ ?_
              refine gfrom [(2, .pointer _), (3, .pointer _), (4, .pointer _), (5, .pointer _), (7, .int _ _), (8, .string _), (10, .pointer _)] ⟨rfl, rfl, rfl, rfl, rfl, rfl, rfl, trivial⟩ fun σ => ?_
              refine gseq fun N63 hN63 => ?_
              refine gseq fun N64 hN64 => ?_
              refine greg ?_
              refine gop (y_move (v := .string _) rfl) rfl rfl rfl ?_
              refine gop (y_neqs rfl rfl) rfl rfl rfl ?_
              refine gop (y_move (v := .bool _) rfl) rfl rfl rfl ?_
              refine gop_if (want := true) rfl rfl rfl rfl rfl rfl (fun hg154 => ?_) (fun hg154 => ?_)
              · 
                have hg154d := hg154
                refine gop (y_bare (y_move (v := .string _) rfl)) rfl rfl rfl ?_
                refine gop_on rfl rfl rfl rfl hg154 ?_
                refine gop (y_bare (y_neqs rfl rfl)) rfl rfl rfl ?_
                refine gop (y_pick_t (v := .bool _) rfl hg154 rfl) rfl rfl rfl ?_
                refine gops_nil ?_
                refine hN64 _ _ ?_
                refine gfrom [(2, .pointer _), (3, .pointer _), (4, .pointer _), (5, .pointer _), (7, .int _ _), (8, .string _), (10, .pointer _), (157, .bool _)] ⟨rfl, rfl, rfl, rfl, rfl, rfl, rfl, rfl, trivial⟩ fun σ => ?_
                refine gcond (b := _) rfl (fun hc157 => ?_) (fun hc157 => ?_)
                · 
                  have hP : parR s = (⟨1, skipW s a0⟩, []) := by
                    refine parR_bad hs2 ?_
                    rw [← hPI.eq, ← hpa]
                    exact op_gbad h133 (strne_t hg154) (strne_t hc157)
                  refine gseq fun N65 hN65 => ?_
                  refine greg_e1 [] [(0, room b2 24 1), (1, room b3 28 2)] (by kernel_rfl) ?_
                  refine ge_take 0 (TK := [room b2 24 1, room b3 28 2, box b24 _, box b26 _, rowl _ _ _ _ _ _, rowl _ _ _ _ _ _, rowl _ _ _ _ _ _, box b10 _]) rfl (by kernel_rfl) (by kernel_rfl) (by kernel_rfl) #[false, true, false, false] (by kernel_rfl) rfl (y_build (vs := []) (cells := #[.slice none 0 0]) rfl bd24_) rfl rfl rfl (weak_trans (weak_room 0 rfl rfl) (weak_room 1 rfl rfl)) (listed' := #[true, false, false, false]) rfl ?_
                  refine ge_take 1 (TK := [room b2 24 1, room b3 28 2, box b24 _, box b26 _, rowl _ _ _ _ _ _, rowl _ _ _ _ _ _, rowl _ _ _ _ _ _, box b10 _]) rfl (by kernel_rfl) (by kernel_rfl) (by kernel_rfl) #[true, false, true, false] (by kernel_rfl) rfl (y_loads (cs := [_, _]) Tryd.isAgg28 Tryd.sizeOf28 rfl rfl (cells_box 7 rfl)) rfl rfl rfl (weak_trans (weak_room 0 rfl rfl) (weak_room 1 rfl rfl)) (listed' := #[true, true, false, false]) rfl ?_
                  refine ge_one 2 (k' := 0) (listed' := #[true, true, true, false]) (by kernel_rfl) rfl rfl rfl ?_
                  refine gop_store 0 (v := .agg #[_]) (cs' := #[_]) rfl rfl Tryd.sizeOf24 rfl rfl rfl rfl (Nat.le_of_ble_eq_true rfl) rfl rfl ?_
                  refine gops_nil ?_
                  refine ge_fin (TK := [room b2 24 1, room b3 28 2, box b24 _, box b26 _, rowl _ _ _ _ _ _, rowl _ _ _ _ _ _, rowl _ _ _ _ _ _, box b10 _]) rfl (weak_trans (weak_room 0 rfl rfl) (weak_room 1 rfl rfl)) ?_
                  refine ge_one 3 (k' := 0) (listed' := #[true, true, true, true]) (by kernel_rfl) rfl rfl rfl ?_
                  refine gop_store 1 (v := .agg #[_, _]) (cs' := #[_, _]) rfl rfl Tryd.sizeOf28 rfl rfl rfl rfl (Nat.le_of_ble_eq_true rfl) rfl rfl ?_
                  refine gops_nil ?_
                  refine ge_fin (TK := [room b2 24 1, room b3 28 2, box b24 _, box b26 _, rowl _ _ _ _ _ _, rowl _ _ _ _ _ _, rowl _ _ _ _ _ _, box b10 _]) rfl (weak_trans (weak_room 0 rfl rfl) (weak_room 1 rfl rfl)) ?_
                  refine ge_done (by kernel_rfl) ?_
                  refine hN65 _ _ ?_
                  refine gT [box b2 _, box b3 _, box b24 _, box b26 _, rowl _ _ _ _ _ _, rowl _ _ _ _ _ _, rowl _ _ _ _ _ _, box b10 _] rfl ?_
                  refine gfrom [(2, .pointer _), (3, .pointer _)] ⟨rfl, rfl, trivial⟩ fun σ => ?_
                  refine gret fun w1 hM => ?_
                  refine ⟨_, res2 rfl (rc 0 (cs := [_]) hM rfl rfl Tryd.isAgg24 Tryd.sizeOf24 rfl) (rc 1 (cs := [_, _]) hM rfl rfl Tryd.isAgg28 Tryd.sizeOf28 rfl), ?_⟩
                  rw [hP]
                  exact ⟨_, rfl, hM.low, newL_nil⟩
                · 
                  have hwo : wd = wAnd ∨ wd = wOr := by first | exact .inr (strne_f hc157) | exact .inl (strne_f hg154)
                  have hrw1 : 1 ≤ rankW wd := by rcases hwo with rfl | rfl <;> decide
                  have hPI2 := hPI.oper hwo hrs.after
                  obtain ⟨ri1, ri2, ri3⟩ := red_inv hrw1 sq ω (by have h9 := hPI.bn; simpa using h9)
                  have htt9 := hPI.tt
                  refine gskip ?_
                  refine hN63 _ _ ?_
                  refine gfrom [(2, .pointer _), (3, .pointer _), (4, .pointer _), (5, .pointer _), (7, .int _ _), (8, .string _)] ⟨rfl, rfl, rfl, rfl, rfl, rfl, trivial⟩ fun σ => ?_
                  refine gseq fun N66 hN66 => ?_
                  refine greg ?_
                  refine gop (y_move (v := .pointer _) rfl) rfl rfl rfl ?_
                  refine gop (y_move (v := .string _) rfl) rfl rfl rfl ?_
                  refine gop_pure (e_call (vs := [.string _]) Tryd.func38 rfl (by kernel_rfl) rfl) (fun w hM => refRank_any w wd) rfl rfl rfl ?_
                  refine gops_mem _ weak_pk ?_
                  refine gop_does1 0 (fun v r G => ∃ E1 E2 E3 e1 e2 e3, v = .tuple #[] ∧ r = pk (bldE b26 w.heap.size E1 e1 E2 e2 E3 e3 (nodesOf (redW (rankW wd) sq ω).2) (opsOf (redW (rankW wd) sq ω).2) ((redW (rankW wd) sq ω).1.reverse)) ∧ G = []) (e_call (vs := [.pointer _, .int _ _]) Tryd.func37 rfl (by kernel_rfl) rfl) rfl (fun w fr1 hfr hM => by
  have hc := refReduce_any _ w b26 _ _ _ _ _ _ ω sq fr1 hM hbn1 (by omega) _ (rankW wd) rfl (by first | omega | exact hrw1)
  exact hc.mono fun _ _ ⟨h1, E1, E2, E3, e1, e2, e3, h2⟩ => ⟨_, _, [], h1, ⟨E1, E2, E3, e1, e2, e3, rfl, rfl, rfl⟩, h2⟩) rfl rfl rfl ?_
                  rintro _ _ _ ⟨E1, E2, E3, e1, e2, e3, rfl, rfl, rfl⟩
                  refine gops_mem _ weak_unpk ?_
                  refine gops_nil ?_
                  refine hN66 _ _ ?_
                  refine gT [box b2 _, box b3 _, box b24 _, box b26 _, rowl _ _ _ _ _ _, rowl _ _ _ _ _ _, rowl _ _ _ _ _ _, box b10 _] rfl ?_
                  refine gfrom [(2, .pointer _), (3, .pointer _), (4, .pointer _), (5, .pointer _), (7, .int _ _), (8, .string _)] ⟨rfl, rfl, rfl, rfl, rfl, rfl, trivial⟩ fun σ => ?_
                  refine gseq fun N67 hN67 => ?_
                  refine greg ?_
                  refine gop (y_move (v := .pointer _) rfl) rfl rfl rfl ?_
                  refine gop (y_move (v := .pointer _) rfl) rfl rfl rfl ?_
                  refine gop (y_nilCheck rfl) rfl rfl rfl ?_
                  refine gop (y_fieldAddr_box fa69_2 rfl) rfl rfl rfl ?_
                  refine gop (y_load Tryd.isAgg67 rfl (cell_box 3 rfl rfl)) rfl rfl rfl ?_
                  refine gop (y_move (v := .string _) rfl) rfl rfl rfl ?_
                  refine gop_lit (vs := [.string _]) (cells := #[_]) Tryd.underlying67 Tryd.sizeOf9 Tryd.zeroValue9 rfl (by decide) (by decide) rfl rfl rfl rfl (fun b170 hb170 => ?_)
                  refine gop_append 6 (f := strCells) (l2 := [wd]) Tryd.underlying67 el9 wide_str (v := .slice _ _ _) rfl rfl rfl rfl (fun h => by cases h) (by simp [maxLen]; omega) (by simp; omega) (src_box 8 rfl rfl) rfl (fun v171 => ?_)
                  refine gops_fact (fun w hM => own_form (hM.own 6 rfl)) ?_
                  rintro ⟨A171, c171, rfl, hc171, hm171⟩
                  refine gop (y_nilCheck rfl) rfl rfl rfl ?_
                  refine gop (y_fieldAddr_box fa69_2 rfl) rfl rfl rfl ?_
                  refine gop_store 3 (v := .slice A171 _ c171) (cs' := #[_, _, _]) rfl rfl Tryd.sizeOf67 rfl rfl rfl rfl (Nat.le_of_ble_eq_true rfl) rfl rfl ?_
                  refine gops_nil ?_
                  refine hN67 _ _ ?_
                  refine gT [box b2 _, box b3 _, box b24 _, box b26 _, rowl _ _ _ _ _ _, rowl _ _ _ _ _ _, rowl _ _ _ _ _ _, box b10 _, box b170 _] rfl ?_
                  refine gfrom [(2, .pointer _), (3, .pointer _), (4, .pointer _), (5, .pointer _), (7, .int _ _)] ⟨rfl, rfl, rfl, rfl, rfl, trivial⟩ fun σ => ?_
                  refine greg ?_
                  refine gop (y_assign (v := .bool _) rfl) rfl rfl rfl ?_
                  refine gops_nil ?_
                  rw [← List.reverse_cons]
                  refine gnext2 ((true, o, wd :: (redW (rankW wd) sq ω).1, (redW (rankW wd) sq ω).2, us, nextW s (skipW s a0), E1, e1, E2, e2, A171, c171)) (by show us.length < us.length + 1; omega) (hPI2) ⟨rfl, rfl, trivial⟩ ⟨rfl, rfl, rfl, rfl, trivial⟩ ⟨_, rfl⟩
              · 
                have hg154d := hg154
                refine gop_off rfl rfl rfl rfl hg154 rfl rfl ?_
                refine gop (y_pick_f (v := .bool _) rfl hg154 rfl) rfl rfl rfl ?_
                refine gops_nil ?_
                refine hN64 _ _ ?_
                refine gfrom [(2, .pointer _), (3, .pointer _), (4, .pointer _), (5, .pointer _), (7, .int _ _), (8, .string _), (10, .pointer _), (157, .bool _)] ⟨rfl, rfl, rfl, rfl, rfl, rfl, rfl, rfl, trivial⟩ fun σ => ?_
                refine gcond (b := _) rfl (fun hc157 => ?_) (fun hc157 => ?_)
                · 
                  cases hc157
                · 
                  have hwo : wd = wAnd ∨ wd = wOr := by first | exact .inr (strne_f hc157) | exact .inl (strne_f hg154)
                  have hrw1 : 1 ≤ rankW wd := by rcases hwo with rfl | rfl <;> decide
                  have hPI2 := hPI.oper hwo hrs.after
                  obtain ⟨ri1, ri2, ri3⟩ := red_inv hrw1 sq ω (by have h9 := hPI.bn; simpa using h9)
                  have htt9 := hPI.tt
                  refine gskip ?_
                  refine hN63 _ _ ?_
                  refine gfrom [(2, .pointer _), (3, .pointer _), (4, .pointer _), (5, .pointer _), (7, .int _ _), (8, .string _)] ⟨rfl, rfl, rfl, rfl, rfl, rfl, trivial⟩ fun σ => ?_
                  refine gseq fun N68 hN68 => ?_
                  refine greg ?_
                  refine gop (y_move (v := .pointer _) rfl) rfl rfl rfl ?_
                  refine gop (y_move (v := .string _) rfl) rfl rfl rfl ?_
                  refine gop_pure (e_call (vs := [.string _]) Tryd.func38 rfl (by kernel_rfl) rfl) (fun w hM => refRank_any w wd) rfl rfl rfl ?_
                  refine gops_mem _ weak_pk ?_
                  refine gop_does1 0 (fun v r G => ∃ E1 E2 E3 e1 e2 e3, v = .tuple #[] ∧ r = pk (bldE b26 w.heap.size E1 e1 E2 e2 E3 e3 (nodesOf (redW (rankW wd) sq ω).2) (opsOf (redW (rankW wd) sq ω).2) ((redW (rankW wd) sq ω).1.reverse)) ∧ G = []) (e_call (vs := [.pointer _, .int _ _]) Tryd.func37 rfl (by kernel_rfl) rfl) rfl (fun w fr1 hfr hM => by
  have hc := refReduce_any _ w b26 _ _ _ _ _ _ ω sq fr1 hM hbn1 (by omega) _ (rankW wd) rfl (by first | omega | exact hrw1)
  exact hc.mono fun _ _ ⟨h1, E1, E2, E3, e1, e2, e3, h2⟩ => ⟨_, _, [], h1, ⟨E1, E2, E3, e1, e2, e3, rfl, rfl, rfl⟩, h2⟩) rfl rfl rfl ?_
                  rintro _ _ _ ⟨E1, E2, E3, e1, e2, e3, rfl, rfl, rfl⟩
                  refine gops_mem _ weak_unpk ?_
                  refine gops_nil ?_
                  refine hN68 _ _ ?_
                  refine gT [box b2 _, box b3 _, box b24 _, box b26 _, rowl _ _ _ _ _ _, rowl _ _ _ _ _ _, rowl _ _ _ _ _ _, box b10 _] rfl ?_
                  refine gfrom [(2, .pointer _), (3, .pointer _), (4, .pointer _), (5, .pointer _), (7, .int _ _), (8, .string _)] ⟨rfl, rfl, rfl, rfl, rfl, rfl, trivial⟩ fun σ => ?_
                  refine gseq fun N69 hN69 => ?_
                  refine greg ?_
                  refine gop (y_move (v := .pointer _) rfl) rfl rfl rfl ?_
                  refine gop (y_move (v := .pointer _) rfl) rfl rfl rfl ?_
                  refine gop (y_nilCheck rfl) rfl rfl rfl ?_
                  refine gop (y_fieldAddr_box fa69_2 rfl) rfl rfl rfl ?_
                  refine gop (y_load Tryd.isAgg67 rfl (cell_box 3 rfl rfl)) rfl rfl rfl ?_
                  refine gop (y_move (v := .string _) rfl) rfl rfl rfl ?_
                  refine gop_lit (vs := [.string _]) (cells := #[_]) Tryd.underlying67 Tryd.sizeOf9 Tryd.zeroValue9 rfl (by decide) (by decide) rfl rfl rfl rfl (fun b170 hb170 => ?_)
                  refine gop_append 6 (f := strCells) (l2 := [wd]) Tryd.underlying67 el9 wide_str (v := .slice _ _ _) rfl rfl rfl rfl (fun h => by cases h) (by simp [maxLen]; omega) (by simp; omega) (src_box 8 rfl rfl) rfl (fun v171 => ?_)
                  refine gops_fact (fun w hM => own_form (hM.own 6 rfl)) ?_
                  rintro ⟨A171, c171, rfl, hc171, hm171⟩
                  refine gop (y_nilCheck rfl) rfl rfl rfl ?_
                  refine gop (y_fieldAddr_box fa69_2 rfl) rfl rfl rfl ?_
                  refine gop_store 3 (v := .slice A171 _ c171) (cs' := #[_, _, _]) rfl rfl Tryd.sizeOf67 rfl rfl rfl rfl (Nat.le_of_ble_eq_true rfl) rfl rfl ?_
                  refine gops_nil ?_
                  refine hN69 _ _ ?_
                  refine gT [box b2 _, box b3 _, box b24 _, box b26 _, rowl _ _ _ _ _ _, rowl _ _ _ _ _ _, rowl _ _ _ _ _ _, box b10 _, box b170 _] rfl ?_
                  refine gfrom [(2, .pointer _), (3, .pointer _), (4, .pointer _), (5, .pointer _), (7, .int _ _)] ⟨rfl, rfl, rfl, rfl, rfl, trivial⟩ fun σ => ?_
                  refine greg ?_
                  refine gop (y_assign (v := .bool _) rfl) rfl rfl rfl ?_
                  refine gops_nil ?_
                  rw [← List.reverse_cons]
                  refine gnext2 ((true, o, wd :: (redW (rankW wd) sq ω).1, (redW (rankW wd) sq ω).2, us, nextW s (skipW s a0), E1, e1, E2, e2, A171, c171)) (by show us.length < us.length + 1; omega) (hPI2) ⟨rfl, rfl, trivial⟩ ⟨rfl, rfl, rfl, rfl, trivial⟩ ⟨_, rfl⟩
          · 
            have hg130d := hg130
            refine gop_off rfl rfl rfl rfl hg130 rfl rfl ?_
            refine gop (y_pick_f (v := .bool _) rfl hg130 rfl) rfl rfl rfl ?_
            refine gops_nil ?_
            refine hN59 _ _ ?_
            refine gfrom [(2, .pointer _), (3, .pointer _), (4, .pointer _), (5, .pointer _), (6, .bool _), (7, .int _ _), (8, .string _), (10, .pointer _), (133, .bool _)] ⟨rfl, rfl, rfl, rfl, rfl, rfl, rfl, rfl, rfl, trivial⟩ fun σ => ?_
            refine gcond (b := _) rfl (fun hc133 => ?_) (fun hc133 => ?_)
            · 
              cases hc133
            · 
              have h133 : ¬ (wd = wR ∧ 0 < o) := by
                rintro ⟨h9, h8⟩
                first
                | omega
                | exact streq_f hg130 h9
              refine gskip ?_
              refine hN58 _ _ ?_
              refine gfrom [(2, .pointer _), (3, .pointer _), (4, .pointer _), (5, .pointer _), (7, .int _ _), (8, .string _), (10, .pointer _)] ⟨rfl, rfl, rfl, rfl, rfl, rfl, rfl, trivial⟩ fun σ => ?_
              refine gseq fun N70 hN70 => ?_
              refine gseq fun N71 hN71 => ?_
              refine greg ?_
              refine gop (y_move (v := .string _) rfl) rfl rfl rfl ?_
              refine gop (y_neqs rfl rfl) rfl rfl rfl ?_
              refine gop (y_move (v := .bool _) rfl) rfl rfl rfl ?_
              refine gop_if (want := true) rfl rfl rfl rfl rfl rfl (fun hg154 => ?_) (fun hg154 => ?_)
              · 
                have hg154d := hg154
                refine gop (y_bare (y_move (v := .string _) rfl)) rfl rfl rfl ?_
                refine gop_on rfl rfl rfl rfl hg154 ?_
                refine gop (y_bare (y_neqs rfl rfl)) rfl rfl rfl ?_
                refine gop (y_pick_t (v := .bool _) rfl hg154 rfl) rfl rfl rfl ?_
                refine gops_nil ?_
                refine hN71 _ _ ?_
                refine gfrom [(2, .pointer _), (3, .pointer _), (4, .pointer _), (5, .pointer _), (7, .int _ _), (8, .string _), (10, .pointer _), (157, .bool _)] ⟨rfl, rfl, rfl, rfl, rfl, rfl, rfl, rfl, trivial⟩ fun σ => ?_
                refine gcond (b := _) rfl (fun hc157 => ?_) (fun hc157 => ?_)
                · 
                  have hP : parR s = (⟨1, skipW s a0⟩, []) := by
                    refine parR_bad hs2 ?_
                    rw [← hPI.eq, ← hpa]
                    exact op_gbad h133 (strne_t hg154) (strne_t hc157)
                  refine gseq fun N72 hN72 => ?_
                  refine greg_e1 [] [(0, room b2 24 1), (1, room b3 28 2)] (by kernel_rfl) ?_
                  refine ge_take 0 (TK := [room b2 24 1, room b3 28 2, box b24 _, box b26 _, rowl _ _ _ _ _ _, rowl _ _ _ _ _ _, rowl _ _ _ _ _ _, box b10 _]) rfl (by kernel_rfl) (by kernel_rfl) (by kernel_rfl) #[false, true, false, false] (by kernel_rfl) rfl (y_build (vs := []) (cells := #[.slice none 0 0]) rfl bd24_) rfl rfl rfl (weak_trans (weak_room 0 rfl rfl) (weak_room 1 rfl rfl)) (listed' := #[true, false, false, false]) rfl ?_
                  refine ge_take 1 (TK := [room b2 24 1, room b3 28 2, box b24 _, box b26 _, rowl _ _ _ _ _ _, rowl _ _ _ _ _ _, rowl _ _ _ _ _ _, box b10 _]) rfl (by kernel_rfl) (by kernel_rfl) (by kernel_rfl) #[true, false, true, false] (by kernel_rfl) rfl (y_loads (cs := [_, _]) Tryd.isAgg28 Tryd.sizeOf28 rfl rfl (cells_box 7 rfl)) rfl rfl rfl (weak_trans (weak_room 0 rfl rfl) (weak_room 1 rfl rfl)) (listed' := #[true, true, false, false]) rfl ?_
                  refine ge_one 2 (k' := 0) (listed' := #[true, true, true, false]) (by kernel_rfl) rfl rfl rfl ?_
                  refine gop_store 0 (v := .agg #[_]) (cs' := #[_]) rfl rfl Tryd.sizeOf24 rfl rfl rfl rfl (Nat.le_of_ble_eq_true rfl) rfl rfl ?_
                  refine gops_nil ?_
                  refine ge_fin (TK := [room b2 24 1, room b3 28 2, box b24 _, box b26 _, rowl _ _ _ _ _ _, rowl _ _ _ _ _ _, rowl _ _ _ _ _ _, box b10 _]) rfl (weak_trans (weak_room 0 rfl rfl) (weak_room 1 rfl rfl)) ?_
                  refine ge_one 3 (k' := 0) (listed' := #[true, true, true, true]) (by kernel_rfl) rfl rfl rfl ?_
                  refine gop_store 1 (v := .agg #[_, _]) (cs' := #[_, _]) rfl rfl Tryd.sizeOf28 rfl rfl rfl rfl (Nat.le_of_ble_eq_true rfl) rfl rfl ?_
                  refine gops_nil ?_
                  refine ge_fin (TK := [room b2 24 1, room b3 28 2, box b24 _, box b26 _, rowl _ _ _ _ _ _, rowl _ _ _ _ _ _, rowl _ _ _ _ _ _, box b10 _]) rfl (weak_trans (weak_room 0 rfl rfl) (weak_room 1 rfl rfl)) ?_
                  refine ge_done (by kernel_rfl) ?_
                  refine hN72 _ _ ?_
                  refine gT [box b2 _, box b3 _, box b24 _, box b26 _, rowl _ _ _ _ _ _, rowl _ _ _ _ _ _, rowl _ _ _ _ _ _, box b10 _] rfl ?_
                  refine gfrom [(2, .pointer _), (3, .pointer _)] ⟨rfl, rfl, trivial⟩ fun σ => ?_
                  refine gret fun w1 hM => ?_
                  refine ⟨_, res2 rfl (rc 0 (cs := [_]) hM rfl rfl Tryd.isAgg24 Tryd.sizeOf24 rfl) (rc 1 (cs := [_, _]) hM rfl rfl Tryd.isAgg28 Tryd.sizeOf28 rfl), ?_⟩
                  rw [hP]
                  exact ⟨_, rfl, hM.low, newL_nil⟩
                · 
                  have hwo : wd = wAnd ∨ wd = wOr := by first | exact .inr (strne_f hc157) | exact .inl (strne_f hg154)
                  have hrw1 : 1 ≤ rankW wd := by rcases hwo with rfl | rfl <;> decide
                  have hPI2 := hPI.oper hwo hrs.after
                  obtain ⟨ri1, ri2, ri3⟩ := red_inv hrw1 sq ω (by have h9 := hPI.bn; simpa using h9)
                  have htt9 := hPI.tt
                  refine gskip ?_
                  refine hN70 _ _ ?_
                  refine gfrom [(2, .pointer _), (3, .pointer _), (4, .pointer _), (5, .pointer _), (7, .int _ _), (8, .string _)] ⟨rfl, rfl, rfl, rfl, rfl, rfl, trivial⟩ fun σ => ?_
                  refine gseq fun N73 hN73 => ?_
                  refine greg ?_
                  refine gop (y_move (v := .pointer _) rfl) rfl rfl rfl ?_
                  refine gop (y_move (v := .string _) rfl) rfl rfl rfl ?_
                  refine gop_pure (e_call (vs := [.string _]) Tryd.func38 rfl (by kernel_rfl) rfl) (fun w hM => refRank_any w wd) rfl rfl rfl ?_
                  refine gops_mem _ weak_pk ?_
                  refine gop_does1 0 (fun v r G => ∃ E1 E2 E3 e1 e2 e3, v = .tuple #[] ∧ r = pk (bldE b26 w.heap.size E1 e1 E2 e2 E3 e3 (nodesOf (redW (rankW wd) sq ω).2) (opsOf (redW (rankW wd) sq ω).2) ((redW (rankW wd) sq ω).1.reverse)) ∧ G = []) (e_call (vs := [.pointer _, .int _ _]) Tryd.func37 rfl (by kernel_rfl) rfl) rfl (fun w fr1 hfr hM => by
  have hc := refReduce_any _ w b26 _ _ _ _ _ _ ω sq fr1 hM hbn1 (by omega) _ (rankW wd) rfl (by first | omega | exact hrw1)
  exact hc.mono fun _ _ ⟨h1, E1, E2, E3, e1, e2, e3, h2⟩ => ⟨_, _, [], h1, ⟨E1, E2, E3, e1, e2, e3, rfl, rfl, rfl⟩, h2⟩) rfl rfl rfl ?_
                  rintro _ _ _ ⟨E1, E2, E3, e1, e2, e3, rfl, rfl, rfl⟩
                  refine gops_mem _ weak_unpk ?_
                  refine gops_nil ?_
                  refine hN73 _ _ ?_
                  refine gT [box b2 _, box b3 _, box b24 _, box b26 _, rowl _ _ _ _ _ _, rowl _ _ _ _ _ _, rowl _ _ _ _ _ _, box b10 _] rfl ?_
                  refine gfrom [(2, .pointer _), (3, .pointer _), (4, .pointer _), (5, .pointer _), (7, .int _ _), (8, .string _)] ⟨rfl, rfl, rfl, rfl, rfl, rfl, trivial⟩ fun σ => ?_
                  refine gseq fun N74 hN74 => ?_
                  refine greg ?_
                  refine gop (y_move (v := .pointer _) rfl) rfl rfl rfl ?_
                  refine gop (y_move (v := .pointer _) rfl) rfl rfl rfl ?_
                  refine gop (y_nilCheck rfl) rfl rfl rfl ?_
                  refine gop (y_fieldAddr_box fa69_2 rfl) rfl rfl rfl ?_
                  refine gop (y_load Tryd.isAgg67 rfl (cell_box 3 rfl rfl)) rfl rfl rfl ?_
                  refine gop (y_move (v := .string _) rfl) rfl rfl rfl ?_
                  refine gop_lit (vs := [.string _]) (cells := #[_]) Tryd.underlying67 Tryd.sizeOf9 Tryd.zeroValue9 rfl (by decide) (by decide) rfl rfl rfl rfl (fun b170 hb170 => ?_)
                  refine gop_append 6 (f := strCells) (l2 := [wd]) Tryd.underlying67 el9 wide_str (v := .slice _ _ _) rfl rfl rfl rfl (fun h => by cases h) (by simp [maxLen]; omega) (by simp; omega) (src_box 8 rfl rfl) rfl (fun v171 => ?_)
                  refine gops_fact (fun w hM => own_form (hM.own 6 rfl)) ?_
                  rintro ⟨A171, c171, rfl, hc171, hm171⟩
                  refine gop (y_nilCheck rfl) rfl rfl rfl ?_
                  refine gop (y_fieldAddr_box fa69_2 rfl) rfl rfl rfl ?_
                  refine gop_store 3 (v := .slice A171 _ c171) (cs' := #[_, _, _]) rfl rfl Tryd.sizeOf67 rfl rfl rfl rfl (Nat.le_of_ble_eq_true rfl) rfl rfl ?_
                  refine gops_nil ?_
                  refine hN74 _ _ ?_
                  refine gT [box b2 _, box b3 _, box b24 _, box b26 _, rowl _ _ _ _ _ _, rowl _ _ _ _ _ _, rowl _ _ _ _ _ _, box b10 _, box b170 _] rfl ?_
                  refine gfrom [(2, .pointer _), (3, .pointer _), (4, .pointer _), (5, .pointer _), (7, .int _ _)] ⟨rfl, rfl, rfl, rfl, rfl, trivial⟩ fun σ => ?_
                  refine greg ?_
                  refine gop (y_assign (v := .bool _) rfl) rfl rfl rfl ?_
                  refine gops_nil ?_
                  rw [← List.reverse_cons]
                  refine gnext2 ((true, o, wd :: (redW (rankW wd) sq ω).1, (redW (rankW wd) sq ω).2, us, nextW s (skipW s a0), E1, e1, E2, e2, A171, c171)) (by show us.length < us.length + 1; omega) (hPI2) ⟨rfl, rfl, trivial⟩ ⟨rfl, rfl, rfl, rfl, trivial⟩ ⟨_, rfl⟩
              · 
                have hg154d := hg154
                refine gop_off rfl rfl rfl rfl hg154 rfl rfl ?_
                refine gop (y_pick_f (v := .bool _) rfl hg154 rfl) rfl rfl rfl ?_
                refine gops_nil ?_
                refine hN71 _ _ ?_
                refine gfrom [(2, .pointer _), (3, .pointer _), (4, .pointer _), (5, .pointer _), (7, .int _ _), (8, .string _), (10, .pointer _), (157, .bool _)] ⟨rfl, rfl, rfl, rfl, rfl, rfl, rfl, rfl, trivial⟩ fun σ => ?_
                refine gcond (b := _) rfl (fun hc157 => ?_) (fun hc157 => ?_)
                · 
                  cases hc157
                · 
                  have hwo : wd = wAnd ∨ wd = wOr := by first | exact .inr (strne_f hc157) | exact .inl (strne_f hg154)
                  have hrw1 : 1 ≤ rankW wd := by rcases hwo with rfl | rfl <;> decide
                  have hPI2 := hPI.oper hwo hrs.after
                  obtain ⟨ri1, ri2, ri3⟩ := red_inv hrw1 sq ω (by have h9 := hPI.bn; simpa using h9)
                  have htt9 := hPI.tt
                  refine gskip ?_
                  refine hN70 _ _ ?_
                  refine gfrom [(2, .pointer _), (3, .pointer _), (4, .pointer _), (5, .pointer _), (7, .int _ _), (8, .string _)] ⟨rfl, rfl, rfl, rfl, rfl, rfl, trivial⟩ fun σ => ?_
                  refine gseq fun N75 hN75 => ?_
                  refine greg ?_
                  refine gop (y_move (v := .pointer _) rfl) rfl rfl rfl ?_
                  refine gop (y_move (v := .string _) rfl) rfl rfl rfl ?_
                  refine gop_pure (e_call (vs := [.string _]) Tryd.func38 rfl (by kernel_rfl) rfl) (fun w hM => refRank_any w wd) rfl rfl rfl ?_
                  refine gops_mem _ weak_pk ?_
                  refine gop_does1 0 (fun v r G => ∃ E1 E2 E3 e1 e2 e3, v = .tuple #[] ∧ r = pk (bldE b26 w.heap.size E1 e1 E2 e2 E3 e3 (nodesOf (redW (rankW wd) sq ω).2) (opsOf (redW (rankW wd) sq ω).2) ((redW (rankW wd) sq ω).1.reverse)) ∧ G = []) (e_call (vs := [.pointer _, .int _ _]) Tryd.func37 rfl (by kernel_rfl) rfl) rfl (fun w fr1 hfr hM => by
  have hc := refReduce_any _ w b26 _ _ _ _ _ _ ω sq fr1 hM hbn1 (by omega) _ (rankW wd) rfl (by first | omega | exact hrw1)
  exact hc.mono fun _ _ ⟨h1, E1, E2, E3, e1, e2, e3, h2⟩ => ⟨_, _, [], h1, ⟨E1, E2, E3, e1, e2, e3, rfl, rfl, rfl⟩, h2⟩) rfl rfl rfl ?_
                  rintro _ _ _ ⟨E1, E2, E3, e1, e2, e3, rfl, rfl, rfl⟩
                  refine gops_mem _ weak_unpk ?_
                  refine gops_nil ?_
                  refine hN75 _ _ ?_
                  refine gT [box b2 _, box b3 _, box b24 _, box b26 _, rowl _ _ _ _ _ _, rowl _ _ _ _ _ _, rowl _ _ _ _ _ _, box b10 _] rfl ?_
                  refine gfrom [(2, .pointer _), (3, .pointer _), (4, .pointer _), (5, .pointer _), (7, .int _ _), (8, .string _)] ⟨rfl, rfl, rfl, rfl, rfl, rfl, trivial⟩ fun σ => ?_
                  refine gseq fun N76 hN76 => ?_
                  refine greg ?_
                  refine gop (y_move (v := .pointer _) rfl) rfl rfl rfl ?_
                  refine gop (y_move (v := .pointer _) rfl) rfl rfl rfl ?_
                  refine gop (y_nilCheck rfl) rfl rfl rfl ?_
                  refine gop (y_fieldAddr_box fa69_2 rfl) rfl rfl rfl ?_
                  refine gop (y_load Tryd.isAgg67 rfl (cell_box 3 rfl rfl)) rfl rfl rfl ?_
                  refine gop (y_move (v := .string _) rfl) rfl rfl rfl ?_
                  refine gop_lit (vs := [.string _]) (cells := #[_]) Tryd.underlying67 Tryd.sizeOf9 Tryd.zeroValue9 rfl (by decide) (by decide) rfl rfl rfl rfl (fun b170 hb170 => ?_)
                  refine gop_append 6 (f := strCells) (l2 := [wd]) Tryd.underlying67 el9 wide_str (v := .slice _ _ _) rfl rfl rfl rfl (fun h => by cases h) (by simp [maxLen]; omega) (by simp; omega) (src_box 8 rfl rfl) rfl (fun v171 => ?_)
                  refine gops_fact (fun w hM => own_form (hM.own 6 rfl)) ?_
                  rintro ⟨A171, c171, rfl, hc171, hm171⟩
                  refine gop (y_nilCheck rfl) rfl rfl rfl ?_
                  refine gop (y_fieldAddr_box fa69_2 rfl) rfl rfl rfl ?_
                  refine gop_store 3 (v := .slice A171 _ c171) (cs' := #[_, _, _]) rfl rfl Tryd.sizeOf67 rfl rfl rfl rfl (Nat.le_of_ble_eq_true rfl) rfl rfl ?_
                  refine gops_nil ?_
                  refine hN76 _ _ ?_
                  refine gT [box b2 _, box b3 _, box b24 _, box b26 _, rowl _ _ _ _ _ _, rowl _ _ _ _ _ _, rowl _ _ _ _ _ _, box b10 _, box b170 _] rfl ?_
                  refine gfrom [(2, .pointer _), (3, .pointer _), (4, .pointer _), (5, .pointer _), (7, .int _ _)] ⟨rfl, rfl, rfl, rfl, rfl, trivial⟩ fun σ => ?_
                  refine greg ?_
                  refine gop (y_assign (v := .bool _) rfl) rfl rfl rfl ?_
                  refine gops_nil ?_
                  rw [← List.reverse_cons]
                  refine gnext2 ((true, o, wd :: (redW (rankW wd) sq ω).1, (redW (rankW wd) sq ω).2, us, nextW s (skipW s a0), E1, e1, E2, e2, A171, c171)) (by show us.length < us.length + 1; omega) (hPI2) ⟨rfl, rfl, trivial⟩ ⟨rfl, rfl, rfl, rfl, trivial⟩ ⟨_, rfl⟩
end Go.Proofs.YtllblbkbglifjaaDoor
namespace Go.Proofs.YtllblbkbglifjaaDoor
open Go.RowKit Go.Cf
set_option maxRecDepth 10000
theorem eg47 (op : BinOp) (x y : Operand) (xs ys : Array Value) (w : World) : (eqGuard op 47 x y (.agg xs) (.agg ys)).run Tryd.prog w = .ok () w := run_eqGuard_agg w op 47 x y xs ys (by kernel_rfl)
theorem ne47 (a0 b0 : Int) (a1 b1 : Int) (a2 b2 : Int) (a3 b3 : Int) (w : World) : (binOp .neq 47 (.agg #[.int .i64 a0, .int .i64 a1, .int .i64 a2, .int .i64 a3]) (.agg #[.int .i64 b0, .int .i64 b1, .int .i64 b2, .int .i64 b3])).run Tryd.prog w = .ok (.bool (!(decide (a0 = b0) && decide (a1 = b1) && decide (a2 = b2) && decide (a3 = b3)))) w := by
  simp [run_neq_struct, run_equalIn_agg, Tryd.underlying47, Tryd.stoodInHeld47, Program.fieldsOf, go_sem]
  (repeat' split) <;> simp_all
set_option maxHeartbeats 4000000 in
theorem refEqPol_any (w : World) (A B : Option Addr) (c d : Nat) (l m : List PN) (hl : Rdl w 0 4 pnCells A l) (hm : Rdl w 0 4 pnCells B m) (hlm : l.length ≤ maxLen) : Calls Tryd.prog 14 #[.agg #[.slice A l.length c], .agg #[.slice B m.length d]] w fun e w' => e = .returned (.bool (decide (l = m))) ∧ Below w.heap.size w w' := by
  have hmx : maxLen = 9223372036854775807 := rfl
  refine gcalls Tryd.func14 rfl Tryd.ntmps14 (Nat.le_of_ble_eq_true rfl) ?_
  refine gfrom [(0, .agg #[_]), (1, .agg #[_])] ⟨rfl, rfl, trivial⟩ fun σ => ?_
  refine gseq fun N1 hN1 => ?_
  refine greg ?_
  refine gop_box (v := .agg #[_]) (cs := #[_]) rfl rfl rfl (fun b2 hb2 => ?_)
  refine gop_box (v := .agg #[_]) (cs := #[_]) rfl rfl rfl (fun b3 hb3 => ?_)
  refine gop (y_assign (v := .bool _) rfl) rfl rfl rfl ?_
  refine gops_nil ?_
  refine hN1 _ _ ?_
  refine gT [box b2 _, box b3 _] rfl ?_
  refine gfrom [(2, .pointer _), (3, .pointer _)] ⟨rfl, rfl, trivial⟩ fun σ => ?_
  refine gseq fun N2 hN2 => ?_
  refine gseq fun N3 hN3 => ?_
  refine greg ?_
  refine gop (y_fieldAddr_box fa24_0 rfl) rfl rfl rfl ?_
  refine gop (y_load Tryd.isAgg22 rfl (cell_box 0 rfl rfl)) rfl rfl rfl ?_
  refine gop (y_len Tryd.underlying22 rfl) rfl rfl rfl ?_
  refine gop (y_fieldAddr_box fa24_0 rfl) rfl rfl rfl ?_
  refine gop (y_load Tryd.isAgg22 rfl (cell_box 1 rfl rfl)) rfl rfl rfl ?_
  refine gop (y_len Tryd.underlying22 rfl) rfl rfl rfl ?_
  refine gop (y_neq rfl rfl) rfl rfl rfl ?_
  refine gops_nil ?_
  refine hN3 _ _ ?_
  refine gfrom [(2, .pointer _), (3, .pointer _), (12, .bool _)] ⟨rfl, rfl, rfl, trivial⟩ fun σ => ?_
  refine gcond (b := _) rfl (fun hc12 => ?_) (fun hc12 => ?_)
  · 
    replace hc12 := of_decide_eq_true hc12
    have hD : decide (l = m) = false := decide_eq_false (fun h => by rw [h] at hc12; exact hc12 rfl)
    refine gseq fun N4 hN4 => ?_
    refine greg ?_
    refine gop (y_assign (v := .bool _) rfl) rfl rfl rfl ?_
    refine gops_nil ?_
    refine hN4 _ _ ?_
    refine gfrom [(4, .bool _)] ⟨rfl, trivial⟩ fun σ => ?_
    refine gret fun w1 hM => ?_
    refine ⟨_, res1 rfl (rt (v := .bool _) rfl), ?_⟩
    exact ⟨by rw [hD], hM.low⟩
  · 
    replace hc12 := Decidable.not_not.1 (of_decide_eq_false hc12)
    have hlen : l.length = m.length := by omega
    refine gskip ?_
    refine hN2 _ _ ?_
    refine gfrom [(2, .pointer _), (3, .pointer _)] ⟨rfl, rfl, trivial⟩ fun σ => ?_
    refine gseq fun N5 hN5 => ?_
    refine gseq fun N6 hN6 => ?_
    refine greg ?_
    refine gop (y_assign (v := .int _ _) rfl) rfl rfl rfl ?_
    refine gops_nil ?_
    refine hN6 _ _ ?_
    refine gfrom [(2, .pointer _), (3, .pointer _), (5, .int _ _)] ⟨rfl, rfl, rfl, trivial⟩ fun σ => ?_
    refine gblock ?_
    refine gfrom2 [(5, .int _ _)] [(2, .pointer _), (3, .pointer _)] ⟨rfl, trivial⟩ ⟨rfl, rfl, trivial⟩ fun σ => ?_
    refine gloop2 (G := Nat) (fun k => k ≤ l.length ∧ ∀ j (h1 : j < l.length) (h2 : j < m.length), j < k → l[j] = m[j]) (fun k => l.length - k) (fun k => [(5, .int .i64 (k : Int))]) (fun k => []) (0) ?h0 ⟨rfl, trivial⟩ ⟨rfl, rfl, trivial⟩ rfl ?round
    case h0 => exact ⟨Nat.zero_le _, fun _ _ _ h => absurd h (by omega)⟩
    case round =>
      intro k hφ σ
      obtain ⟨hk, hz⟩ := hφ
      refine gseq fun N7 hN7 => ?_
      refine gseq fun N8 hN8 => ?_
      refine greg ?_
      refine gop (y_move (v := .int _ _) rfl) rfl rfl rfl ?_
      refine gop (y_fieldAddr_box fa24_0 rfl) rfl rfl rfl ?_
      refine gop (y_load Tryd.isAgg22 rfl (cell_box 0 rfl rfl)) rfl rfl rfl ?_
      refine gop (y_len Tryd.underlying22 rfl) rfl rfl rfl ?_
      refine gop (y_lss rfl rfl) rfl rfl rfl ?_
      refine gops_nil ?_
      refine hN8 _ _ ?_
      refine gfrom [(2, .pointer _), (3, .pointer _), (5, .int _ _), (17, .bool _)] ⟨rfl, rfl, rfl, rfl, trivial⟩ fun σ => ?_
      refine gcond (b := _) rfl (fun hc17 => ?_) (fun hc17 => ?_)
      · 
        replace hc17 := of_decide_eq_true hc17
        have hk1 : k < l.length := by omega
        have hk2 : k < m.length := by omega
        obtain ⟨ad, rfl, -, hca⟩ := hl.at_ hk1
        obtain ⟨bd, rfl, -, hcb⟩ := hm.at_ hk2
        refine gskip ?_
        refine hN7 _ _ ?_
        refine gfrom [(2, .pointer _), (3, .pointer _), (5, .int _ _)] ⟨rfl, rfl, rfl, trivial⟩ fun σ => ?_
        refine gseq fun N9 hN9 => ?_
        refine gblock ?_
        refine gseq fun N10 hN10 => ?_
        refine greg_q (by kernel_rfl) (by kernel_rfl) ?_
        refine gq (y_fieldAddr_box fa24_0 rfl) rfl rfl rfl ?_
        refine gq (y_load Tryd.isAgg22 rfl (cell_box 0 rfl rfl)) rfl rfl rfl ?_
        refine gq (y_move (v := .int _ _) rfl) rfl rfl rfl ?_
        refine gq (y_indexAddr (m := k) Tryd.underlying22 Tryd.sizeOf47 rfl rfl (by omega) (by omega) (by omega)) rfl rfl rfl ?_
        refine gq (y_loads (cs := [_, _, _, _]) Tryd.isAgg47 Tryd.sizeOf47 rfl rfl (cells_base hca)) rfl rfl rfl ?_
        refine gq (y_fieldAddr_box fa24_0 rfl) rfl rfl rfl ?_
        refine gq (y_load Tryd.isAgg22 rfl (cell_box 1 rfl rfl)) rfl rfl rfl ?_
        refine gq (y_move (v := .int _ _) rfl) rfl rfl rfl ?_
        refine gq (y_indexAddr (m := k) Tryd.underlying22 Tryd.sizeOf47 rfl rfl (by omega) (by omega) (by omega)) rfl rfl rfl ?_
        refine gq (y_loads (cs := [_, _, _, _]) Tryd.isAgg47 Tryd.sizeOf47 rfl rfl (cells_base hcb)) rfl rfl rfl ?_
        refine gq (y_bin (vx := .agg #[_, _, _, _]) (vy := .agg #[_, _, _, _]) rfl rfl (fun w => eg47 _ _ _ _ _ w) (fun w => ne47 _ _ _ _ _ _ _ _ w)) rfl rfl rfl ?_
        refine gqs_nil ?_
        refine hN10 _ _ ?_
        refine gfrom [(2, .pointer _), (3, .pointer _), (5, .int _ _), (30, .bool _)] ⟨rfl, rfl, rfl, rfl, trivial⟩ fun σ => ?_
        refine gcond (b := _) rfl (fun hc30 => ?_) (fun hc30 => ?_)
        · 
          rw [pn_same] at hc30
          have hne : l[k] ≠ m[k] := by simpa using hc30
          have hD : decide (l = m) = false := decide_eq_false (fun h => hne (by subst h; rfl))
          refine gseq fun N11 hN11 => ?_
          refine greg ?_
          refine gop (y_assign (v := .bool _) rfl) rfl rfl rfl ?_
          refine gops_nil ?_
          refine hN11 _ _ ?_
          refine gfrom [(4, .bool _)] ⟨rfl, trivial⟩ fun σ => ?_
          refine gret fun w1 hM => ?_
          refine ⟨_, res1 rfl (rt (v := .bool _) rfl), ?_⟩
          exact ⟨by rw [hD], hM.low⟩
        · 
          rw [pn_same] at hc30
          have heq : l[k] = m[k] := by simpa using hc30
          refine gskip ?_
          refine hN9 _ _ ?_
          refine gfrom [(2, .pointer _), (3, .pointer _), (5, .int _ _)] ⟨rfl, rfl, rfl, trivial⟩ fun σ => ?_
          refine greg ?_
          refine gop (y_move (v := .int _ _) rfl) rfl rfl rfl ?_
          refine gop (y_add rfl rfl ⟨by omega, by omega⟩) rfl rfl rfl ?_
          refine gop (y_assign (v := .int _ _) rfl) rfl rfl rfl ?_
          refine gops_nil ?_
          refine gnext2 (k + 1) (by omega) (⟨by show k + 1 ≤ _; omega, fun j h1 h2 hj => by rcases Nat.lt_succ_iff_lt_or_eq.1 hj with h3 | rfl; exact hz j h1 h2 h3; exact heq⟩) ⟨rfl, trivial⟩ ⟨rfl, rfl, trivial⟩ ⟨_, rfl⟩
      · 
        replace hc17 := of_decide_eq_false hc17
        have hD : decide (l = m) = true := decide_eq_true (List.ext_getElem hlen fun j h1 h2 => hz j h1 h2 (by omega))
        refine gexit ?_
        refine hN5 _ _ ?_
        refine gfrom [] trivial fun σ => ?_
        refine gseq fun N12 hN12 => ?_
        refine greg ?_
        refine gop (y_assign (v := .bool _) rfl) rfl rfl rfl ?_
        refine gops_nil ?_
        refine hN12 _ _ ?_
        refine gfrom [(4, .bool _)] ⟨rfl, trivial⟩ fun σ => ?_
        refine gret fun w1 hM => ?_
        refine ⟨_, res1 rfl (rt (v := .bool _) rfl), ?_⟩
        exact ⟨by rw [hD], hM.low⟩
end Go.Proofs.YtllblbkbglifjaaDoor
namespace Go.Cf
abbrev exPs : ByteArray := ⟨#[110, 111, 116, 32, 40, 116, 101, 115, 116, 115, 32, 97, 110, 100, 32, 111, 119, 110, 101, 114, 115, 41]⟩
abbrev exPs2 : ByteArray := ⟨#[110, 111, 116, 32, 116, 101, 115, 116, 115, 32, 111, 114, 32, 110, 111, 116, 32, 111, 119, 110, 101, 114, 115]⟩
def exPn : List PN := post (.neg (.bin 6 (.leaf 3 0) (.leaf 2 0))) 0
def exQn : List PN := post (.bin 7 (.neg (.leaf 3 0)) (.neg (.leaf 2 0))) 0
theorem ex_par : parR exPs = (⟨0, 0⟩, exPn) := by rfl
theorem ex_nor : norR exPn = (⟨0, 0⟩, exQn) := by rfl
theorem ex_fmt : fmtR exPn = (⟨0, 0⟩, exPs.data.toList) := by rfl
theorem ex_fmt2 : fmtR exQn = (⟨0, 0⟩, exPs2.data.toList) := by rfl
theorem ex_ev : evalF exPn ⟨0, false, true, 0⟩ = ⟨0, 0⟩ ∧ evalV exPn ⟨0, false, true, 0⟩ = true := by constructor <;> rfl
theorem ex_t1 : baL (fmtR (parR exPs).2).2 = exPs := by rw [ex_par, ex_fmt]; rfl
theorem ex_t2 : baL (fmtR (norR (parR exPs).2).2).2 = exPs2 := by rw [ex_par, ex_nor, ex_fmt2]; rfl
theorem ex_v : evalV (parR exPs).2 ⟨0, false, true, 0⟩ = true := by rw [ex_par]; exact ex_ev.2
end Go.Cf
namespace Go.Proofs.YtllblbkbglifjaaDoor
open Go.RowKit Go.Cf
set_option maxRecDepth 10000
theorem bd26_2 (x1 : Bool) : Tryd.prog.built 26 [(2, .bool x1)] = some #[.int .i64 0, .bool false, .bool x1, .int .i64 0] := by kernel_rfl
theorem fa28_0 (a : Addr) (w : World) : (Instr.fieldAt 28 (.pointer (some a)) 0).run Tryd.prog w = .ok (.pointer (some (a.add 0))) w := by kernel_rfl
set_option maxHeartbeats 4000000 in
theorem policyExample_any (w : World) (hL : LaidP w) : Calls Tryd.prog 12 #[] w fun e w' => e = .returned (.bool true) ∧ Below w.heap.size w w' := by
  refine gcalls Tryd.func12 rfl Tryd.ntmps12 (Nat.le_of_ble_eq_true rfl) ?_
  refine gfrom [] trivial fun σ => ?_
  refine gseq fun N1 hN1 => ?_
  refine greg ?_
  refine gop (y_assign (v := .bool _) rfl) rfl rfl rfl ?_
  refine gops_nil ?_
  refine hN1 _ _ ?_
  refine gfrom [] trivial fun σ => ?_
  refine gseq fun N2 hN2 => ?_
  refine greg ?_
  refine gop_new (fun lo ws v => ∃ v1, v = .tuple #[.agg #[v1], fv (parR exPs).1] ∧ NewL 4 pnCells (parR exPs).2 lo ws v1) (e_call (vs := [_]) Tryd.func19 rfl (by kernel_rfl) rfl) (fun w hM => by have hc := polParse_any w exPs (hL.base hM) (by decide); exact hc.mono fun _ _ ⟨v1, h1, h2, h3⟩ => ⟨_, h1, h2, v1, rfl, h3⟩) rfl rfl rfl ?_
  rintro _ lo12 ws12 hlo12 ⟨_, rfl, A12, c12, rfl, hcc12, hcm12, hr12⟩
  refine gop (y_move (v := .tuple #[.agg #[.slice _ _ _], .agg #[_, _]]) rfl) rfl rfl rfl ?_
  refine gop (y_extract (v := .agg #[_]) rfl rfl) rfl rfl rfl ?_
  refine gop (y_extract (v := .agg #[_, _]) rfl rfl) rfl rfl rfl ?_
  refine gop_alloc (cs := #[.slice none 0 0]) Tryd.zeroValue24 rfl rfl (fun b1 hb1 => ?_)
  refine gop_alloc (cs := #[.int .i64 0, .int .i64 0]) Tryd.zeroValue28 rfl rfl (fun b2 hb2 => ?_)
  refine gop_store 1 (v := .agg #[_]) (cs' := #[_]) rfl rfl Tryd.sizeOf24 rfl rfl rfl rfl (Nat.le_of_ble_eq_true rfl) rfl rfl ?_
  refine gop_store 2 (v := .agg #[_, _]) (cs' := #[_, _]) rfl rfl Tryd.sizeOf28 rfl rfl rfl rfl (Nat.le_of_ble_eq_true rfl) rfl rfl ?_
  refine gops_nil ?_
  refine hN2 _ _ ?_
  refine gT [seal_ _ _, box b1 _, box b2 _] rfl ?_
  refine gfrom [(1, .pointer _), (2, .pointer _)] ⟨rfl, rfl, trivial⟩ fun σ => ?_
  refine gseq fun N3 hN3 => ?_
  refine greg ?_
  refine gop (y_loads (cs := [_]) Tryd.isAgg24 Tryd.sizeOf24 rfl rfl (cells_box 1 rfl)) rfl rfl rfl ?_
  refine gop_pure (e_call (vs := [.agg #[_]]) Tryd.func9 rfl (by kernel_rfl) rfl) (fun w hM => polFormat_any w A12 c12 (parR exPs).2 ((hr12.seal_ 0 rfl (Nat.le_refl _) hM).mono (Nat.zero_le _)) hcc12 hcm12) rfl rfl rfl ?_
  refine gop (y_move (v := .tuple #[.string _, .agg #[_, _]]) rfl) rfl rfl rfl ?_
  refine gop (y_extract (v := .string _) rfl rfl) rfl rfl rfl ?_
  refine gop (y_extract (v := .agg #[_, _]) rfl rfl) rfl rfl rfl ?_
  refine gop_alloc (cs := #[.int .i64 0, .int .i64 0]) Tryd.zeroValue28 rfl rfl (fun b4 hb4 => ?_)
  refine gop (y_assign (v := .string _) rfl) rfl rfl rfl ?_
  refine gop_store 3 (v := .agg #[_, _]) (cs' := #[_, _]) rfl rfl Tryd.sizeOf28 rfl rfl rfl rfl (Nat.le_of_ble_eq_true rfl) rfl rfl ?_
  refine gops_nil ?_
  refine hN3 _ _ ?_
  refine gT [seal_ _ _, box b1 _, box b2 _, box b4 _] rfl ?_
  refine gfrom [(1, .pointer _), (2, .pointer _), (3, .string _), (4, .pointer _)] ⟨rfl, rfl, rfl, rfl, trivial⟩ fun σ => ?_
  refine gseq fun N4 hN4 => ?_
  refine greg ?_
  refine gop (y_loads (cs := [_]) Tryd.isAgg24 Tryd.sizeOf24 rfl rfl (cells_box 1 rfl)) rfl rfl rfl ?_
  refine gop_new (fun lo ws v => ∃ v1, v = .tuple #[.agg #[v1], fv (norR (parR exPs).2).1] ∧ NewL 4 pnCells (norR (parR exPs).2).2 lo ws v1) (e_call (vs := [.agg #[_]]) Tryd.func11 rfl (by kernel_rfl) rfl) (fun w hM => by have hc := polNormal_any w A12 c12 (parR exPs).2 ((hr12.seal_ 0 rfl (Nat.le_refl _) hM).mono (Nat.zero_le _)) hcc12 hcm12; exact hc.mono fun _ _ ⟨v1, h1, h2, h3⟩ => ⟨_, h1, h2, v1, rfl, h3⟩) rfl rfl rfl ?_
  rintro _ lo22 ws22 hlo22 ⟨_, rfl, A22, c22, rfl, hcc22, hcm22, hr22⟩
  refine gop (y_move (v := .tuple #[.agg #[.slice _ _ _], .agg #[_, _]]) rfl) rfl rfl rfl ?_
  refine gop (y_extract (v := .agg #[_]) rfl rfl) rfl rfl rfl ?_
  refine gop (y_extract (v := .agg #[_, _]) rfl rfl) rfl rfl rfl ?_
  refine gop_alloc (cs := #[.slice none 0 0]) Tryd.zeroValue24 rfl rfl (fun b5 hb5 => ?_)
  refine gop_alloc (cs := #[.int .i64 0, .int .i64 0]) Tryd.zeroValue28 rfl rfl (fun b6 hb6 => ?_)
  refine gop_store 5 (v := .agg #[_]) (cs' := #[_]) rfl rfl Tryd.sizeOf24 rfl rfl rfl rfl (Nat.le_of_ble_eq_true rfl) rfl rfl ?_
  refine gop_store 6 (v := .agg #[_, _]) (cs' := #[_, _]) rfl rfl Tryd.sizeOf28 rfl rfl rfl rfl (Nat.le_of_ble_eq_true rfl) rfl rfl ?_
  refine gops_nil ?_
  refine hN4 _ _ ?_
  refine gT [seal_ _ _, box b1 _, box b2 _, box b4 _, seal_ _ _, box b5 _, box b6 _] rfl ?_
  refine gfrom [(1, .pointer _), (2, .pointer _), (3, .string _), (4, .pointer _), (5, .pointer _), (6, .pointer _)] ⟨rfl, rfl, rfl, rfl, rfl, rfl, trivial⟩ fun σ => ?_
  refine gseq fun N5 hN5 => ?_
  refine greg ?_
  refine gop (y_loads (cs := [_]) Tryd.isAgg24 Tryd.sizeOf24 rfl rfl (cells_box 5 rfl)) rfl rfl rfl ?_
  refine gop_pure (e_call (vs := [.agg #[_]]) Tryd.func9 rfl (by kernel_rfl) rfl) (fun w hM => polFormat_any w A22 c22 (norR (parR exPs).2).2 ((hr22.seal_ 4 rfl (Nat.le_refl _) hM).mono (Nat.zero_le _)) hcc22 hcm22) rfl rfl rfl ?_
  refine gop (y_move (v := .tuple #[.string _, .agg #[_, _]]) rfl) rfl rfl rfl ?_
  refine gop (y_extract (v := .string _) rfl rfl) rfl rfl rfl ?_
  refine gop (y_extract (v := .agg #[_, _]) rfl rfl) rfl rfl rfl ?_
  refine gop_alloc (cs := #[.int .i64 0, .int .i64 0]) Tryd.zeroValue28 rfl rfl (fun b8 hb8 => ?_)
  refine gop (y_assign (v := .string _) rfl) rfl rfl rfl ?_
  refine gop_store 7 (v := .agg #[_, _]) (cs' := #[_, _]) rfl rfl Tryd.sizeOf28 rfl rfl rfl rfl (Nat.le_of_ble_eq_true rfl) rfl rfl ?_
  refine gops_nil ?_
  refine hN5 _ _ ?_
  refine gT [seal_ _ _, box b1 _, box b2 _, box b4 _, seal_ _ _, box b5 _, box b6 _, box b8 _] rfl ?_
  refine gfrom [(1, .pointer _), (2, .pointer _), (3, .string _), (4, .pointer _), (6, .pointer _), (7, .string _), (8, .pointer _)] ⟨rfl, rfl, rfl, rfl, rfl, rfl, rfl, trivial⟩ fun σ => ?_
  refine gseq fun N6 hN6 => ?_
  refine greg ?_
  refine gop (y_loads (cs := [_]) Tryd.isAgg24 Tryd.sizeOf24 rfl rfl (cells_box 1 rfl)) rfl rfl rfl ?_
  refine gop (y_build (vs := [(2, _)]) (cells := #[.int .i64 0, .bool false, _, .int .i64 0]) rfl (bd26_2 _)) rfl rfl rfl ?_
  refine gop_pure (e_call (vs := [.agg #[_], .agg #[_, _, _, _]]) Tryd.func10 rfl (by kernel_rfl) rfl) (fun w hM => polEval_any w A12 c12 (parR exPs).2 ((hr12.seal_ 0 rfl (Nat.le_refl _) hM).mono (Nat.zero_le _)) hcc12 hcm12 ⟨0, false, true, 0⟩) rfl rfl rfl ?_
  refine gop (y_move (v := .tuple #[.bool _, .agg #[_, _]]) rfl) rfl rfl rfl ?_
  refine gop (y_extract (v := .bool _) rfl rfl) rfl rfl rfl ?_
  refine gop (y_extract (v := .agg #[_, _]) rfl rfl) rfl rfl rfl ?_
  refine gop_alloc (cs := #[.int .i64 0, .int .i64 0]) Tryd.zeroValue28 rfl rfl (fun b10 hb10 => ?_)
  refine gop (y_assign (v := .bool _) rfl) rfl rfl rfl ?_
  refine gop_store 8 (v := .agg #[_, _]) (cs' := #[_, _]) rfl rfl Tryd.sizeOf28 rfl rfl rfl rfl (Nat.le_of_ble_eq_true rfl) rfl rfl ?_
  refine gops_nil ?_
  refine hN6 _ _ ?_
  refine gT [seal_ _ _, box b1 _, box b2 _, box b4 _, seal_ _ _, box b5 _, box b6 _, box b8 _, box b10 _] rfl ?_
  refine gfrom [(2, .pointer _), (3, .string _), (4, .pointer _), (6, .pointer _), (7, .string _), (8, .pointer _), (9, .bool _), (10, .pointer _)] ⟨rfl, rfl, rfl, rfl, rfl, rfl, rfl, rfl, trivial⟩ fun σ => ?_
  refine gseq fun N7 hN7 => ?_
  refine greg ?_
  refine gop (y_fieldAddr_box fa28_0 rfl) rfl rfl rfl ?_
  refine gop (y_load Tryd.isAgg3 rfl (cell_box 2 rfl rfl)) rfl rfl rfl ?_
  refine gop (y_eql rfl rfl) rfl rfl rfl ?_
  refine gop (y_move (v := .bool _) rfl) rfl rfl rfl ?_
  refine gop_if (want := true) rfl rfl rfl rfl rfl rfl (fun hg39 => ?_) (fun hg39 => ?_)
  · 
    have hg39d := of_decide_eq_true hg39
    refine gop (y_bare (y_fieldAddr_box fa28_0 rfl)) rfl rfl rfl ?_
    refine gop_on rfl rfl rfl rfl hg39 ?_
    refine gop (y_bare (y_load Tryd.isAgg3 rfl (cell_box 3 rfl rfl))) rfl rfl rfl ?_
    refine gop_on rfl rfl rfl rfl hg39 ?_
    refine gop (y_bare (y_eql rfl rfl)) rfl rfl rfl ?_
    refine gop (y_pick_t (v := .bool _) rfl hg39 rfl) rfl rfl rfl ?_
    refine gop (y_move (v := .bool _) rfl) rfl rfl rfl ?_
    refine gop_if (want := true) rfl rfl rfl rfl rfl rfl (fun hg44 => ?_) (fun hg44 => ?_)
    · 
      have hg44d := of_decide_eq_true hg44
      refine gop (y_bare (y_fieldAddr_box fa28_0 rfl)) rfl rfl rfl ?_
      refine gop_on rfl rfl rfl rfl hg44 ?_
      refine gop (y_bare (y_load Tryd.isAgg3 rfl (cell_box 6 rfl rfl))) rfl rfl rfl ?_
      refine gop_on rfl rfl rfl rfl hg44 ?_
      refine gop (y_bare (y_eql rfl rfl)) rfl rfl rfl ?_
      refine gop (y_pick_t (v := .bool _) rfl hg44 rfl) rfl rfl rfl ?_
      refine gop (y_move (v := .bool _) rfl) rfl rfl rfl ?_
      refine gop_if (want := true) rfl rfl rfl rfl rfl rfl (fun hg49 => ?_) (fun hg49 => ?_)
      · 
        have hg49d := of_decide_eq_true hg49
        refine gop (y_bare (y_fieldAddr_box fa28_0 rfl)) rfl rfl rfl ?_
        refine gop_on rfl rfl rfl rfl hg49 ?_
        refine gop (y_bare (y_load Tryd.isAgg3 rfl (cell_box 7 rfl rfl))) rfl rfl rfl ?_
        refine gop_on rfl rfl rfl rfl hg49 ?_
        refine gop (y_bare (y_eql rfl rfl)) rfl rfl rfl ?_
        refine gop (y_pick_t (v := .bool _) rfl hg49 rfl) rfl rfl rfl ?_
        refine gop (y_move (v := .bool _) rfl) rfl rfl rfl ?_
        refine gop_if (want := true) rfl rfl rfl rfl rfl rfl (fun hg54 => ?_) (fun hg54 => ?_)
        · 
          have hg54d := of_decide_eq_true hg54
          refine gop (y_bare (y_fieldAddr_box fa28_0 rfl)) rfl rfl rfl ?_
          refine gop_on rfl rfl rfl rfl hg54 ?_
          refine gop (y_bare (y_load Tryd.isAgg3 rfl (cell_box 8 rfl rfl))) rfl rfl rfl ?_
          refine gop_on rfl rfl rfl rfl hg54 ?_
          refine gop (y_bare (y_eql rfl rfl)) rfl rfl rfl ?_
          refine gop (y_pick_t (v := .bool _) rfl hg54 rfl) rfl rfl rfl ?_
          refine gop (y_move (v := .bool _) rfl) rfl rfl rfl ?_
          refine gop_if (want := true) rfl rfl rfl rfl rfl rfl (fun hg59 => ?_) (fun hg59 => ?_)
          · 
            have hg59d := of_decide_eq_true hg59
            refine gop (y_bare (y_move (v := .string _) rfl)) rfl rfl rfl ?_
            refine gop_on rfl rfl rfl rfl hg59 ?_
            refine gop (y_bare (y_eqls rfl rfl)) rfl rfl rfl ?_
            refine gop (y_pick_t (v := .bool _) rfl hg59 rfl) rfl rfl rfl ?_
            refine gop (y_move (v := .bool _) rfl) rfl rfl rfl ?_
            refine gop_if (want := true) rfl rfl rfl rfl rfl rfl (fun hg63 => ?_) (fun hg63 => ?_)
            · 
              have hg63d := hg63
              refine gop (y_bare (y_move (v := .string _) rfl)) rfl rfl rfl ?_
              refine gop_on rfl rfl rfl rfl hg63 ?_
              refine gop (y_bare (y_eqls rfl rfl)) rfl rfl rfl ?_
              refine gop (y_pick_t (v := .bool _) rfl hg63 rfl) rfl rfl rfl ?_
              refine gop (y_move (v := .bool _) rfl) rfl rfl rfl ?_
              refine gop_if (want := true) rfl rfl rfl rfl rfl rfl (fun hg67 => ?_) (fun hg67 => ?_)
              · 
                have hg67d := hg67
                refine gop (y_bare (y_move (v := .bool _) rfl)) rfl rfl rfl ?_
                refine gop (y_pick_t (v := .bool _) rfl hg67 rfl) rfl rfl rfl ?_
                refine gop (y_assign (v := .bool _) rfl) rfl rfl rfl ?_
                refine gops_nil ?_
                refine hN7 _ _ ?_
                refine gfrom [(0, .bool _)] ⟨rfl, trivial⟩ fun σ => ?_
                refine gret fun w1 hM => ?_
                refine ⟨_, res1 rfl (rt (v := .bool _) rfl), ?_⟩
                exact ⟨by rw [ex_v], hM.low⟩
              · 
                 exact absurd hg67 (by rw [ex_t2]; simp)
            · 
               exact absurd hg63 (by rw [ex_t1]; simp)
          · 
             exact absurd hg59 (by simp [ex_par, ex_nor, ex_fmt, ex_fmt2, ex_ev])
        · 
           exact absurd hg54 (by simp [ex_par, ex_nor, ex_fmt, ex_fmt2, ex_ev])
      · 
         exact absurd hg49 (by simp [ex_par, ex_nor, ex_fmt, ex_fmt2, ex_ev])
    · 
       exact absurd hg44 (by simp [ex_par, ex_nor, ex_fmt, ex_fmt2, ex_ev])
  · 
     exact absurd hg39 (by simp [ex_par, ex_nor, ex_fmt, ex_fmt2, ex_ev])
end Go.Proofs.YtllblbkbglifjaaDoor
namespace Go.Proofs.YtllblbkbglifjaaDoor
open Go.RowKit Go.Cf
set_option maxRecDepth 10000
theorem eq28 (a0 b0 : Int) (a1 b1 : Int) (w : World) : (binOp .eql 28 (.agg #[.int .i64 a0, .int .i64 a1]) (.agg #[.int .i64 b0, .int .i64 b1])).run Tryd.prog w = .ok (.bool ((decide (a0 = b0) && decide (a1 = b1)))) w := by
  simp [run_eql_struct, run_equalIn_agg, Tryd.underlying28, Tryd.stoodInHeld28, Program.fieldsOf, go_sem]
  (repeat' split) <;> simp_all
set_option maxHeartbeats 8000000 in
theorem law31_any (w : World) (s : ByteArray) (hL : LaidP w) (hs : s.size ≤ reachBytes) :
    Calls Tryd.prog 4 #[.string s] w fun e w' => e = .returned (.bool true) ∧ Below w.heap.size w w' := by
  have hs0 : s.size ≤ 9223372036854775807 := by unfold reachBytes at hs; omega
  refine gcalls Tryd.func4 rfl Tryd.ntmps4 (Nat.le_of_ble_eq_true rfl) ?_
  refine gfrom [(0, .string s)] ⟨rfl, trivial⟩ fun σ => ?_
  refine gseq fun N1 hN1 => ?_
  refine greg ?_
  refine gop (y_assign (v := .bool _) rfl) rfl rfl rfl ?_
  refine gops_nil ?_
  refine hN1 _ _ ?_
  refine gfrom [(0, .string s)] ⟨rfl, trivial⟩ fun σ => ?_
  refine gseq fun N2 hN2 => ?_
  refine greg ?_
  refine gop (y_move (v := .string s) rfl) rfl rfl rfl ?_
  refine gop_new (fun lo ws v => ∃ v1, v = .tuple #[.agg #[v1], fv (parR s).1] ∧ NewL 4 pnCells (parR s).2 lo ws v1) (e_call (vs := [.string s]) Tryd.func19 rfl (by kernel_rfl) rfl) (fun w hM => by have hc := polParse_any w s (hL.base hM) hs0; exact hc.mono fun _ _ ⟨v1, h1, h2, h3⟩ => ⟨_, h1, h2, v1, rfl, h3⟩) rfl rfl rfl ?_
  rintro _ lo9 ws9 hlo9 ⟨_, rfl, A9, c9, rfl, hcc9, hcm9, hr9⟩
  refine gop (y_move (v := .tuple #[.agg #[.slice _ _ _], .agg #[_, _]]) rfl) rfl rfl rfl ?_
  refine gop (y_extract (v := .agg #[_]) rfl rfl) rfl rfl rfl ?_
  refine gop (y_extract (v := .agg #[_, _]) rfl rfl) rfl rfl rfl ?_
  refine gop_alloc (cs := #[.slice none 0 0]) Tryd.zeroValue24 rfl rfl (fun b3 hb3 => ?_)
  refine gop_alloc (cs := #[.int .i64 0, .int .i64 0]) Tryd.zeroValue28 rfl rfl (fun b4 hb4 => ?_)
  refine gop_store 1 (v := .agg #[_]) (cs' := #[_]) rfl rfl Tryd.sizeOf24 rfl rfl rfl rfl (Nat.le_of_ble_eq_true rfl) rfl rfl ?_
  refine gop_store 2 (v := .agg #[_, _]) (cs' := #[_, _]) rfl rfl Tryd.sizeOf28 rfl rfl rfl rfl (Nat.le_of_ble_eq_true rfl) rfl rfl ?_
  refine gops_nil ?_
  refine hN2 _ _ ?_
  refine gT [seal_ _ _, box b3 _, box b4 _] rfl ?_
  refine gfrom [(0, .string s), (3, .pointer _), (4, .pointer _)] ⟨rfl, rfl, rfl, trivial⟩ fun σ => ?_
  refine gseq fun N3 hN3 => ?_
  refine greg ?_
  refine gop (y_move (v := .string s) rfl) rfl rfl rfl ?_
  refine gop_new (fun lo ws v => ∃ v1, v = .tuple #[.agg #[v1], fv (parR s).1] ∧ NewL 4 pnCells (parR s).2 lo ws v1) (e_call (vs := [.string s]) Tryd.func20 rfl (by kernel_rfl) rfl) (fun w hM => by have hc := refParse_any w s hs0; exact hc.mono fun _ _ ⟨v1, h1, h2, h3⟩ => ⟨_, h1, h2, v1, rfl, h3⟩) rfl rfl rfl ?_
  rintro _ lo14 ws14 hlo14 ⟨_, rfl, A14, c14, rfl, hcc14, hcm14, hr14⟩
  refine gop (y_move (v := .tuple #[.agg #[.slice _ _ _], .agg #[_, _]]) rfl) rfl rfl rfl ?_
  refine gop (y_extract (v := .agg #[_]) rfl rfl) rfl rfl rfl ?_
  refine gop (y_extract (v := .agg #[_, _]) rfl rfl) rfl rfl rfl ?_
  refine gop_alloc (cs := #[.slice none 0 0]) Tryd.zeroValue24 rfl rfl (fun b5 hb5 => ?_)
  refine gop_alloc (cs := #[.int .i64 0, .int .i64 0]) Tryd.zeroValue28 rfl rfl (fun b6 hb6 => ?_)
  refine gop_store 4 (v := .agg #[_]) (cs' := #[_]) rfl rfl Tryd.sizeOf24 rfl rfl rfl rfl (Nat.le_of_ble_eq_true rfl) rfl rfl ?_
  refine gop_store 5 (v := .agg #[_, _]) (cs' := #[_, _]) rfl rfl Tryd.sizeOf28 rfl rfl rfl rfl (Nat.le_of_ble_eq_true rfl) rfl rfl ?_
  refine gops_nil ?_
  refine hN3 _ _ ?_
  refine gT [seal_ _ _, box b3 _, box b4 _, seal_ _ _, box b5 _, box b6 _] rfl ?_
  refine gfrom [(3, .pointer _), (4, .pointer _), (5, .pointer _), (6, .pointer _)] ⟨rfl, rfl, rfl, rfl, trivial⟩ fun σ => ?_
  refine gseq fun N4 hN4 => ?_
  refine greg ?_
  refine gop_pure (e_call (vs := []) Tryd.func12 rfl (by kernel_rfl) rfl) (fun w hM => policyExample_any w (hL.base hM)) rfl rfl rfl ?_
  refine gop (y_move (v := .bool _) rfl) rfl rfl rfl ?_
  refine gop_if (want := true) rfl rfl rfl rfl rfl rfl (fun hg18 => ?_) (fun hg18 => ?_)
  · 
    have hg18d := hg18
    refine gop (y_bare (y_loads (cs := [_, _]) Tryd.isAgg28 Tryd.sizeOf28 rfl rfl (cells_box 2 rfl))) rfl rfl rfl ?_
    refine gop_on rfl rfl rfl rfl hg18 ?_
    refine gop (y_bare (y_loads (cs := [_, _]) Tryd.isAgg28 Tryd.sizeOf28 rfl rfl (cells_box 5 rfl))) rfl rfl rfl ?_
    refine gop_on rfl rfl rfl rfl hg18 ?_
    refine gop (y_bare (y_bin (vx := .agg #[_, _]) (vy := .agg #[_, _]) rfl rfl (fun w => eg28 _ _ _ _ _ w) (fun w => eq28 _ _ _ _ w))) rfl rfl rfl ?_
    refine gop (y_pick_t (v := .bool _) rfl hg18 rfl) rfl rfl rfl ?_
    refine gop (y_move (v := .bool _) rfl) rfl rfl rfl ?_
    refine gop_if (want := true) rfl rfl rfl rfl rfl rfl (fun hg23 => ?_) (fun hg23 => ?_)
    · 
      have hg23d := hg23
      refine gop (y_bare (y_loads (cs := [_]) Tryd.isAgg24 Tryd.sizeOf24 rfl rfl (cells_box 1 rfl))) rfl rfl rfl ?_
      refine gop_on rfl rfl rfl rfl hg23 ?_
      refine gop (y_bare (y_loads (cs := [_]) Tryd.isAgg24 Tryd.sizeOf24 rfl rfl (cells_box 4 rfl))) rfl rfl rfl ?_
      refine gop_on rfl rfl rfl rfl hg23 ?_
      refine gop_pure (e_call (vs := [.agg #[_], .agg #[_]]) Tryd.func14 rfl (by kernel_rfl) rfl) (fun w hM => refEqPol_any w _ _ _ _ (parR s).2 (parR s).2 ((hr9.seal_ 0 rfl (Nat.le_refl _) hM).mono (Nat.zero_le _)) ((hr14.seal_ 3 rfl (Nat.le_refl _) hM).mono (Nat.zero_le _)) (Nat.le_trans hcc9 hcm9)) rfl rfl rfl ?_
      refine gop (y_pick_t (v := .bool _) rfl hg23 rfl) rfl rfl rfl ?_
      refine gop (y_assign (v := .bool _) rfl) rfl rfl rfl ?_
      refine gops_nil ?_
      refine hN4 _ _ ?_
      refine gfrom [(2, .bool _)] ⟨rfl, trivial⟩ fun σ => ?_
      refine gret fun w1 hM => ?_
      refine ⟨_, res1 rfl (rt (v := .bool _) rfl), ?_⟩
      exact ⟨by simp, hM.low⟩
    · 
       exact absurd hg23 (by simp)
  · 
     exact absurd hg18 (by simp)
end Go.Proofs.YtllblbkbglifjaaDoor
namespace Go.Proofs.YtllblbkbglifjaaDoor
open Go.RowKit Go.Cf
theorem errRow (u : TypeId) (h : Tryd.prog.typeName? 3 u = some "*errors.errorString") : u = 121 := by
  have star : "*" ++ "errors.errorString" = "*errors.errorString" := by decide
  exact typeName_ptr_named (nm := "errors.errorString") (by rw [star]; kernel_rfl) (by kernel_rfl) (by decide) u (by rw [star]; exact h)
theorem laidP_of {W : World} (h : laidMetH Tryd.prog [("math/bits.deBruijn32tab", Rows.laid_math_bits_deBruijn32tab), ("math/bits.deBruijn64tab", Rows.laid_math_bits_deBruijn64tab), ("internal/strconv.uint64pow10", Rows.laid_internal_strconv_uint64pow10), ("strconv.ErrRange", Rows.laid_strconv_ErrRange), ("strconv.ErrSyntax", Rows.laid_strconv_ErrSyntax)] W) : LaidP W := by
  rw [MakeChecks.laidMetH_plain _ _ _ (by kernel_rfl)] at h
  have h2 := h.tail.tail
  have gT : Tryd.prog.globalNamed "internal/strconv.uint64pow10" = some 1 := by kernel_rfl
  have gR : Tryd.prog.globalNamed "strconv.ErrRange" = some 3 := by kernel_rfl
  have gS : Tryd.prog.globalNamed "strconv.ErrSyntax" = some 2 := by kernel_rfl
  have hT : Lib.TabIs Tryd.prog W "internal/strconv.uint64pow10" .u64 Lib.pow10Tab := Lib.tabIs_of_head gT (t := 98) (by kernel_rfl) Tryd.underlying98 Tryd.underlying83 (by kernel_rfl) (by kernel_rfl) h2
  obtain ⟨a1, s1, hv1, -, -, -⟩ := laid_sentinel h2.tail gR (by kernel_rfl) Tryd.underlying87 errRow Tryd.underlying121 Tryd.underlying123 rfl rfl Tryd.underlying9 (by kernel_rfl) (by kernel_rfl)
  obtain ⟨a2, s2, hv2, -, -, -⟩ := laid_sentinel h2.tail.tail gS (by kernel_rfl) Tryd.underlying87 errRow Tryd.underlying121 Tryd.underlying123 rfl rfl Tryd.underlying9 (by kernel_rfl) (by kernel_rfl)
  have c1 : W.cell? ⟨3, 0, none⟩ = some (.iface 121 (.pointer (some a1))) := by have h0 := World.var?_cell gR hv1 0; simpa using h0
  have c2 : W.cell? ⟨2, 0, none⟩ = some (.iface 121 (.pointer (some a2))) := by have h0 := World.var?_cell gS hv2 0; simpa using h0
  have c3 := hT.cell gT 0 (by decide)
  have b1 := World.block_lt_of_cell? W _ c1
  have b2 := World.block_lt_of_cell? W _ c2
  have b3 := World.block_lt_of_cell? W _ c3
  simp only at b1 b2 b3
  exact ⟨hT, ⟨_, _, c2⟩, ⟨_, _, c1⟩, by omega⟩
end Go.Proofs.YtllblbkbglifjaaDoor
namespace Go.Cf
open Go.ChangeShapes Go.WideShapes Go.ChangeAt Go.RowKit Go.Deep
theorem trodAll_below {H : Type} {enc : TypeId × Value → H} {P : Program} (hl : laidOutB P = true) {W W' : World} (hb : Below W.heap.size W W') :
    ∀ {ts : List TypeId} {vs : List Value} {ds : List (DataW H)} {ps : List MemPlace}, (∀ t ∈ ts, P.readableRec t = true ∧ t < P.types.size) → DataW.TrodAll enc P W 0 (fun _ => true) true ts vs ds ps →
      DataW.TrodAll enc P W' 0 (fun b => decide (b < W.heap.size)) true ts vs ds ps
  | [], _, _, _, _, h => by
    obtain ⟨rfl, rfl, rfl⟩ := trodAll_nil h
    exact trodAll_mk0
  | t :: ts, _, _, _, hr, h => by
    obtain ⟨v, vs', d, ds', p, q, rfl, rfl, rfl, h1, h2⟩ := trodAll_cons h
    have lt : ∀ x ∈ p, x.block < W.heap.size := by obtain ⟨m, hm⟩ := h1; exact DataW.trod_lt m _ _ _ hm
    exact trodAll_cons_mk (Below.trod hl (hr t (by simp)).1 (hr t (by simp)).2 h1 hb lt) (trodAll_below hl hb (fun t' ht' => hr t' (by simp [ht'])) h2)
section
variable {H : Type} {enc : TypeId × Value → H} {P : Program} {w : World} {t e : TypeId} {v : Value} {d : DataW H} {p : List MemPlace} {b0 : Nat}
theorem weights_each {ts : List TypeId} {ds : List (DataW H)} {t : TypeId} {d : DataW H} (h : (DataW.weightsEach P (t :: ts) (d :: ds)).all (· ≤ reachBytes) = true) :
    (d.weights P t).all (· ≤ reachBytes) = true ∧ (DataW.weightsEach P ts ds).all (· ≤ reachBytes) = true := by
  simpa [DataW.weightsEach, List.all_append] using h
end
end Go.Cf
