/- Own frame, plain models and walks, part 3 (texts of this claim put together). -/
import Derived.Test.YtllblbkbglifjaaDoorP32b
import Derived.Carry
import Derived.ChangeOld
import Derived.Deep.CondSized
import Derived.Deep.DeepHandedRow
import Derived.Deep.Slices
import Derived.LaidLaws
import Derived.Lib.LaidTab
import Derived.MakeChecks
import Derived.OpenShut
import Derived.ProofKit
import Derived.SizedLaws
import Derived.Stop.LaidErr
import Derived.Test.YtllblbkbglifjaaDoorProg
import Derived.Test.YtllblbkbglifjaaDoorRows
namespace Go.Proofs.YtllblbkbglifjaaDoor
open Go.RowKit Go.Cf
set_option maxRecDepth 10000
theorem fa60_3 (a : Addr) (w : World) : (Instr.fieldAt 60 (.pointer (some a)) 3).run Tryd.prog w = .ok (.pointer (some (a.add 3))) w := by kernel_rfl
theorem fa60_2 (a : Addr) (w : World) : (Instr.fieldAt 60 (.pointer (some a)) 2).run Tryd.prog w = .ok (.pointer (some (a.add 2))) w := by kernel_rfl
theorem fa60_1 (a : Addr) (w : World) : (Instr.fieldAt 60 (.pointer (some a)) 1).run Tryd.prog w = .ok (.pointer (some (a.add 1))) w := by kernel_rfl
set_option maxHeartbeats 1000000 in
theorem slIndexByte_any (w : World) (s : ByteArray) (c : Int) : Calls Tryd.prog 47 #[.string s, .int .u8 c] w fun e w' => e = .returned (.int .i64 (firstIdx s c.toNat.toUInt8)) ∧ Below w.heap.size w w' := by
  refine gcalls Tryd.func47 rfl Tryd.ntmps47 (Nat.le_of_ble_eq_true rfl) ?_
  refine gfrom [(0, .string _), (1, .int _ _)] ⟨rfl, rfl, trivial⟩ fun σ => ?_
  refine gseq fun N1 hN1 => ?_
  refine greg ?_
  refine gop (y_assign (v := .int _ _) rfl) rfl rfl rfl ?_
  refine gops_nil ?_
  refine hN1 _ _ ?_
  refine gfrom [(0, .string _), (1, .int _ _)] ⟨rfl, rfl, trivial⟩ fun σ => ?_
  refine gseq fun N2 hN2 => ?_
  refine greg ?_
  refine gop (y_move (v := .string _) rfl) rfl rfl rfl ?_
  refine gop (y_move (v := .int _ _) rfl) rfl rfl rfl ?_
  refine gop (y_indexByte Tryd.func51 (by kernel_rfl) (by kernel_rfl) (by kernel_rfl) (by kernel_rfl) rfl rfl) rfl rfl rfl ?_
  refine gop (y_assign (v := .int _ _) rfl) rfl rfl rfl ?_
  refine gops_nil ?_
  refine hN2 _ _ ?_
  refine gfrom [(4, .int _ _)] ⟨rfl, trivial⟩ fun σ => ?_
  refine gret fun w1 hM => ?_
  refine ⟨_, res1 rfl (rt (v := .int _ _) rfl), ?_⟩
  exact ⟨rfl, hM.low⟩
set_option maxHeartbeats 1000000 in
theorem indexByte_any (w : World) (s : ByteArray) (c : Int) : Calls Tryd.prog 43 #[.string s, .int .u8 c] w fun e w' => e = .returned (.int .i64 (firstIdx s c.toNat.toUInt8)) ∧ Below w.heap.size w w' := by
  refine gcalls Tryd.func43 rfl Tryd.ntmps43 (Nat.le_of_ble_eq_true rfl) ?_
  refine gfrom [(0, .string _), (1, .int _ _)] ⟨rfl, rfl, trivial⟩ fun σ => ?_
  refine gseq fun N1 hN1 => ?_
  refine greg ?_
  refine gop (y_assign (v := .int _ _) rfl) rfl rfl rfl ?_
  refine gops_nil ?_
  refine hN1 _ _ ?_
  refine gfrom [(0, .string _), (1, .int _ _)] ⟨rfl, rfl, trivial⟩ fun σ => ?_
  refine gseq fun N2 hN2 => ?_
  refine greg ?_
  refine gop (y_move (v := .string _) rfl) rfl rfl rfl ?_
  refine gop (y_move (v := .int _ _) rfl) rfl rfl rfl ?_
  refine gop_pure (e_call (vs := [.string _, .int _ _]) Tryd.func47 rfl (by kernel_rfl) rfl) (fun w hM => slIndexByte_any w _ _) rfl rfl rfl ?_
  refine gop (y_assign (v := .int _ _) rfl) rfl rfl rfl ?_
  refine gops_nil ?_
  refine hN2 _ _ ?_
  refine gfrom [(4, .int _ _)] ⟨rfl, trivial⟩ fun σ => ?_
  refine gret fun w1 hM => ?_
  refine ⟨_, res1 rfl (rt (v := .int _ _) rfl), ?_⟩
  exact ⟨rfl, hM.low⟩
set_option maxHeartbeats 8000000 in
theorem rdScan_any (w0 w : World) (rg n bc : Nat) (B : Option Addr) (s : ByteArray) (code : Int) (fr : Reg) (hs : s.size ≤ 200) (a x : Int) (nx : Nat) (hx : x = (nx : Int)) (hnx : nx ≤ s.size) (hM0 : Mem w0 [box rg (.cells #[.slice B n bc, .string s, .int .i64 (a), .int .i64 (x), .int .i64 code] 60), fr] w) :
    Calls Tryd.prog 30 #[.pointer (some ⟨rg, 0, none⟩)] w fun e w' => e = .returned (.tuple #[]) ∧ Mem w0 [box rg (.cells #[.slice B n bc, .string s, .int .i64 ((skipW s nx : Nat)), .int .i64 ((nextW s (skipW s nx) : Nat)), .int .i64 code] 60), fr] w' := by
  subst hx
  refine gcallsT Tryd.func30 rfl Tryd.ntmps30 (Nat.le_of_ble_eq_true rfl) hM0 ?_
  refine gfrom [(0, .pointer (some ⟨rg, 0, none⟩))] ⟨rfl, trivial⟩ fun σ => ?_
  refine gseq fun N1 hN1 => ?_
  refine greg ?_
  refine gop (y_move (v := .pointer (some ⟨rg, 0, none⟩)) rfl) rfl rfl rfl ?_
  refine gop (y_move (v := .pointer (some ⟨rg, 0, none⟩)) rfl) rfl rfl rfl ?_
  refine gop (y_nilCheck rfl) rfl rfl rfl ?_
  refine gop (y_fieldAddr_box fa60_3 rfl) rfl rfl rfl ?_
  refine gop (y_load Tryd.isAgg3 rfl (cell_box 0 rfl rfl)) rfl rfl rfl ?_
  refine gop (y_nilCheck rfl) rfl rfl rfl ?_
  refine gop (y_fieldAddr_box fa60_2 rfl) rfl rfl rfl ?_
  refine gop_store 0 (v := .int _ _) (cs' := #[_, _, _, _, _]) rfl rfl Tryd.sizeOf3 rfl rfl rfl rfl (Nat.le_of_ble_eq_true rfl) rfl rfl ?_
  refine gops_nil ?_
  refine hN1 _ _ ?_
  refine gT [box rg _, fr] rfl ?_
  refine gfrom [(0, .pointer (some ⟨rg, 0, none⟩))] ⟨rfl, trivial⟩ fun σ => ?_
  refine gseq fun N2 hN2 => ?_
  refine gblock ?_
  refine gfrom2 [] [(0, .pointer (some ⟨rg, 0, none⟩))] trivial ⟨rfl, trivial⟩ fun σ => ?_
  refine gloop2 (G := Nat) (fun j => j ≤ s.size ∧ skipW s j = skipW s nx) (fun j => s.size - j) (fun j => []) (fun j => [(0, box rg (.cells #[.slice B n bc, .string s, .int .i64 ((j : Nat)), .int .i64 ((nx : Nat)), .int .i64 code] 60))]) (nx) ?h0 trivial ⟨rfl, trivial⟩ rfl ?round
  case h0 => exact ⟨hnx, rfl⟩
  case round =>
    intro j hφ σ
    obtain ⟨hj, hjs⟩ := hφ
    refine gT [box rg _, fr] rfl ?_
    refine gseq fun N3 hN3 => ?_
    refine gseq fun N4 hN4 => ?_
    refine greg_q (by kernel_rfl) (by kernel_rfl) ?_
    refine gq (y_move (v := .pointer (some ⟨rg, 0, none⟩)) rfl) rfl rfl rfl ?_
    refine gq (y_nilCheck rfl) rfl rfl rfl ?_
    refine gq (y_fieldAddr_box fa60_2 rfl) rfl rfl rfl ?_
    refine gq (y_load Tryd.isAgg3 rfl (cell_box 0 rfl rfl)) rfl rfl rfl ?_
    refine gq (y_move (v := .pointer (some ⟨rg, 0, none⟩)) rfl) rfl rfl rfl ?_
    refine gq (y_nilCheck rfl) rfl rfl rfl ?_
    refine gq (y_fieldAddr_box fa60_1 rfl) rfl rfl rfl ?_
    refine gq (y_load Tryd.isAgg9 rfl (cell_box 0 rfl rfl)) rfl rfl rfl ?_
    refine gq (y_lens Tryd.underlying9 rfl) rfl rfl rfl ?_
    refine gq (y_lss rfl rfl) rfl rfl rfl ?_
    refine gq (y_move (v := .bool _) rfl) rfl rfl rfl ?_
    refine gq_if (want := true) rfl rfl rfl rfl rfl rfl (fun hg19 => ?_) (fun hg19 => ?_)
    · 
      have hg19d := of_decide_eq_true hg19
      refine gq (y_bare (y_move (v := .pointer (some ⟨rg, 0, none⟩)) rfl)) rfl rfl rfl ?_
      refine gq_on rfl rfl rfl rfl hg19 ?_
      refine gq (y_bare (y_nilCheck rfl)) rfl rfl rfl ?_
      refine gq_on rfl rfl rfl rfl hg19 ?_
      refine gq (y_bare (y_fieldAddr_box fa60_1 rfl)) rfl rfl rfl ?_
      refine gq_on rfl rfl rfl rfl hg19 ?_
      refine gq (y_bare (y_load Tryd.isAgg9 rfl (cell_box 0 rfl rfl))) rfl rfl rfl ?_
      refine gq_on rfl rfl rfl rfl hg19 ?_
      refine gq (y_bare (y_move (v := .pointer (some ⟨rg, 0, none⟩)) rfl)) rfl rfl rfl ?_
      refine gq_on rfl rfl rfl rfl hg19 ?_
      refine gq (y_bare (y_nilCheck rfl)) rfl rfl rfl ?_
      refine gq_on rfl rfl rfl rfl hg19 ?_
      refine gq (y_bare (y_fieldAddr_box fa60_2 rfl)) rfl rfl rfl ?_
      refine gq_on rfl rfl rfl rfl hg19 ?_
      refine gq (y_bare (y_load Tryd.isAgg3 rfl (cell_box 0 rfl rfl))) rfl rfl rfl ?_
      refine gq_on rfl rfl rfl rfl hg19 ?_
      refine gq (y_bare (y_stridx (m := j) Tryd.underlying9 rfl rfl (by omega) (by omega) (by omega))) rfl rfl rfl ?_
      refine gq_on rfl rfl rfl rfl hg19 ?_
      refine gq (y_bare (y_eql rfl rfl)) rfl rfl rfl ?_
      refine gq (y_pick_t (v := .bool _) rfl hg19 rfl) rfl rfl rfl ?_
      refine gqs_nil ?_
      refine hN4 _ _ ?_
      refine gfrom [(0, .pointer (some ⟨rg, 0, none⟩)), (30, .bool _)] ⟨rfl, rfl, trivial⟩ fun σ => ?_
      refine gcond (b := _) rfl (fun hc30 => ?_) (fun hc30 => ?_)
      · 
        replace hc30 := of_decide_eq_true hc30
        have hj1 : j < s.size := by omega
        have hb : spB s j = true := decide_eq_true (by omega)
        refine gskip ?_
        refine hN3 _ _ ?_
        refine gfrom [(0, .pointer (some ⟨rg, 0, none⟩))] ⟨rfl, trivial⟩ fun σ => ?_
        refine gblock ?_
        refine greg ?_
        refine gop (y_move (v := .pointer (some ⟨rg, 0, none⟩)) rfl) rfl rfl rfl ?_
        refine gop (y_nilCheck rfl) rfl rfl rfl ?_
        refine gop (y_fieldAddr_box fa60_2 rfl) rfl rfl rfl ?_
        refine gop (y_load Tryd.isAgg3 rfl (cell_box 0 rfl rfl)) rfl rfl rfl ?_
        refine gop (y_add rfl rfl ⟨by omega, by omega⟩) rfl rfl rfl ?_
        refine gop (y_nilCheck rfl) rfl rfl rfl ?_
        refine gop (y_fieldAddr_box fa60_2 rfl) rfl rfl rfl ?_
        refine gop_store 0 (v := .int _ _) (cs' := #[_, _, _, _, _]) rfl rfl Tryd.sizeOf3 rfl rfl rfl rfl (Nat.le_of_ble_eq_true rfl) rfl rfl ?_
        refine gops_nil ?_
        refine gnext2 (j + 1) (by omega) (⟨by show j + 1 ≤ _; omega, by rw [← hjs]; exact (run_step hj1 hb).symm⟩) trivial ⟨rfl, trivial⟩ ⟨_, rfl⟩
      · 
        replace hc30 := of_decide_eq_false hc30
        have hat : skipW s nx = j := by rw [← hjs]; exact run_stop (fun h => decide_eq_false (by omega))
        refine gexit ?_
        refine hN2 _ _ ?_
        refine gfrom [(0, .pointer (some ⟨rg, 0, none⟩))] ⟨rfl, trivial⟩ fun σ => ?_
        refine gseq fun N5 hN5 => ?_
        refine greg ?_
        refine gop (y_move (v := .pointer (some ⟨rg, 0, none⟩)) rfl) rfl rfl rfl ?_
        refine gop (y_move (v := .pointer (some ⟨rg, 0, none⟩)) rfl) rfl rfl rfl ?_
        refine gop (y_nilCheck rfl) rfl rfl rfl ?_
        refine gop (y_fieldAddr_box fa60_2 rfl) rfl rfl rfl ?_
        refine gop (y_load Tryd.isAgg3 rfl (cell_box 0 rfl rfl)) rfl rfl rfl ?_
        refine gop (y_nilCheck rfl) rfl rfl rfl ?_
        refine gop (y_fieldAddr_box fa60_3 rfl) rfl rfl rfl ?_
        refine gop_store 0 (v := .int _ _) (cs' := #[_, _, _, _, _]) rfl rfl Tryd.sizeOf3 rfl rfl rfl rfl (Nat.le_of_ble_eq_true rfl) rfl rfl ?_
        refine gops_nil ?_
        refine hN5 _ _ ?_
        refine gT [box rg _, fr] rfl ?_
        refine gfrom [(0, .pointer (some ⟨rg, 0, none⟩))] ⟨rfl, trivial⟩ fun σ => ?_
        refine gseq fun N6 hN6 => ?_
        refine gblock ?_
        refine gfrom2 [] [(0, .pointer (some ⟨rg, 0, none⟩))] trivial ⟨rfl, trivial⟩ fun σ => ?_
        refine gloop2 (G := Nat) (fun k => k ≤ s.size ∧ endW s k = endW s j) (fun k => s.size - k) (fun k => []) (fun k => [(0, box rg (.cells #[.slice B n bc, .string s, .int .i64 ((j : Nat)), .int .i64 ((k : Nat)), .int .i64 code] 60))]) (j) ?h0 trivial ⟨rfl, trivial⟩ rfl ?round
        case h0 => exact ⟨hj, rfl⟩
        case round =>
          intro k hφ σ
          obtain ⟨hk, hks⟩ := hφ
          refine gT [box rg _, fr] rfl ?_
          refine gseq fun N7 hN7 => ?_
          refine gseq fun N8 hN8 => ?_
          refine greg_q (by kernel_rfl) (by kernel_rfl) ?_
          refine gq (y_move (v := .pointer (some ⟨rg, 0, none⟩)) rfl) rfl rfl rfl ?_
          refine gq (y_nilCheck rfl) rfl rfl rfl ?_
          refine gq (y_fieldAddr_box fa60_3 rfl) rfl rfl rfl ?_
          refine gq (y_load Tryd.isAgg3 rfl (cell_box 0 rfl rfl)) rfl rfl rfl ?_
          refine gq (y_move (v := .pointer (some ⟨rg, 0, none⟩)) rfl) rfl rfl rfl ?_
          refine gq (y_nilCheck rfl) rfl rfl rfl ?_
          refine gq (y_fieldAddr_box fa60_1 rfl) rfl rfl rfl ?_
          refine gq (y_load Tryd.isAgg9 rfl (cell_box 0 rfl rfl)) rfl rfl rfl ?_
          refine gq (y_lens Tryd.underlying9 rfl) rfl rfl rfl ?_
          refine gq (y_lss rfl rfl) rfl rfl rfl ?_
          refine gq (y_move (v := .bool _) rfl) rfl rfl rfl ?_
          refine gq_if (want := true) rfl rfl rfl rfl rfl rfl (fun hg55 => ?_) (fun hg55 => ?_)
          · 
            have hg55d := of_decide_eq_true hg55
            refine gq (y_bare (y_move (v := .pointer (some ⟨rg, 0, none⟩)) rfl)) rfl rfl rfl ?_
            refine gq_on rfl rfl rfl rfl hg55 ?_
            refine gq (y_bare (y_nilCheck rfl)) rfl rfl rfl ?_
            refine gq_on rfl rfl rfl rfl hg55 ?_
            refine gq (y_bare (y_fieldAddr_box fa60_1 rfl)) rfl rfl rfl ?_
            refine gq_on rfl rfl rfl rfl hg55 ?_
            refine gq (y_bare (y_load Tryd.isAgg9 rfl (cell_box 0 rfl rfl))) rfl rfl rfl ?_
            refine gq_on rfl rfl rfl rfl hg55 ?_
            refine gq (y_bare (y_move (v := .pointer (some ⟨rg, 0, none⟩)) rfl)) rfl rfl rfl ?_
            refine gq_on rfl rfl rfl rfl hg55 ?_
            refine gq (y_bare (y_nilCheck rfl)) rfl rfl rfl ?_
            refine gq_on rfl rfl rfl rfl hg55 ?_
            refine gq (y_bare (y_fieldAddr_box fa60_3 rfl)) rfl rfl rfl ?_
            refine gq_on rfl rfl rfl rfl hg55 ?_
            refine gq (y_bare (y_load Tryd.isAgg3 rfl (cell_box 0 rfl rfl))) rfl rfl rfl ?_
            refine gq_on rfl rfl rfl rfl hg55 ?_
            refine gq (y_bare (y_stridx (m := k) Tryd.underlying9 rfl rfl (by omega) (by omega) (by omega))) rfl rfl rfl ?_
            refine gq_on rfl rfl rfl rfl hg55 ?_
            refine gq_pure (e_call (vs := [_, .int _ _]) Tryd.func43 rfl (by kernel_rfl) rfl) (fun w hM => indexByte_any w _ _) rfl rfl rfl ?_
            refine gq_on rfl rfl rfl rfl hg55 ?_
            refine gq (y_bare (y_lss rfl rfl)) rfl rfl rfl ?_
            refine gq (y_pick_t (v := .bool _) rfl hg55 rfl) rfl rfl rfl ?_
            refine gqs_nil ?_
            refine hN8 _ _ ?_
            refine gfrom [(0, .pointer (some ⟨rg, 0, none⟩)), (67, .bool _)] ⟨rfl, rfl, trivial⟩ fun σ => ?_
            refine gcond (b := _) rfl (fun hc67 => ?_) (fun hc67 => ?_)
            · 
              replace hc67 := of_decide_eq_true hc67
              have hk1 : k < s.size := by omega
              have hw : woB s k = true := (sep_idx s k).1 (by omega)
              refine gskip ?_
              refine hN7 _ _ ?_
              refine gfrom [(0, .pointer (some ⟨rg, 0, none⟩))] ⟨rfl, trivial⟩ fun σ => ?_
              refine gblock ?_
              refine greg ?_
              refine gop (y_move (v := .pointer (some ⟨rg, 0, none⟩)) rfl) rfl rfl rfl ?_
              refine gop (y_nilCheck rfl) rfl rfl rfl ?_
              refine gop (y_fieldAddr_box fa60_3 rfl) rfl rfl rfl ?_
              refine gop (y_load Tryd.isAgg3 rfl (cell_box 0 rfl rfl)) rfl rfl rfl ?_
              refine gop (y_add rfl rfl ⟨by omega, by omega⟩) rfl rfl rfl ?_
              refine gop (y_nilCheck rfl) rfl rfl rfl ?_
              refine gop (y_fieldAddr_box fa60_3 rfl) rfl rfl rfl ?_
              refine gop_store 0 (v := .int _ _) (cs' := #[_, _, _, _, _]) rfl rfl Tryd.sizeOf3 rfl rfl rfl rfl (Nat.le_of_ble_eq_true rfl) rfl rfl ?_
              refine gops_nil ?_
              refine gnext2 (k + 1) (by omega) (⟨by show k + 1 ≤ _; omega, by rw [← hks]; exact (run_step hk1 hw).symm⟩) trivial ⟨rfl, trivial⟩ ⟨_, rfl⟩
            · 
              replace hc67 := of_decide_eq_false hc67
              have hend : endW s j = k := by
                rw [← hks]
                refine run_stop (fun h => ?_)
                by_cases hw : woB s k = true
                · exact absurd ((sep_idx s k).2 hw) (by omega)
                · simpa using hw
              refine gexit ?_
              refine hN6 _ _ ?_
              refine gfrom [(0, .pointer (some ⟨rg, 0, none⟩))] ⟨rfl, trivial⟩ fun σ => ?_
              refine gseq fun N9 hN9 => ?_
              refine greg_q (by kernel_rfl) (by kernel_rfl) ?_
              refine gq (y_move (v := .pointer (some ⟨rg, 0, none⟩)) rfl) rfl rfl rfl ?_
              refine gq (y_nilCheck rfl) rfl rfl rfl ?_
              refine gq (y_fieldAddr_box fa60_3 rfl) rfl rfl rfl ?_
              refine gq (y_load Tryd.isAgg3 rfl (cell_box 0 rfl rfl)) rfl rfl rfl ?_
              refine gq (y_move (v := .pointer (some ⟨rg, 0, none⟩)) rfl) rfl rfl rfl ?_
              refine gq (y_nilCheck rfl) rfl rfl rfl ?_
              refine gq (y_fieldAddr_box fa60_2 rfl) rfl rfl rfl ?_
              refine gq (y_load Tryd.isAgg3 rfl (cell_box 0 rfl rfl)) rfl rfl rfl ?_
              refine gq (y_eql rfl rfl) rfl rfl rfl ?_
              refine gq (y_move (v := .bool _) rfl) rfl rfl rfl ?_
              refine gq_if (want := true) rfl rfl rfl rfl rfl rfl (fun hg84 => ?_) (fun hg84 => ?_)
              · 
                have hg84d := of_decide_eq_true hg84
                refine gq (y_bare (y_move (v := .pointer (some ⟨rg, 0, none⟩)) rfl)) rfl rfl rfl ?_
                refine gq_on rfl rfl rfl rfl hg84 ?_
                refine gq (y_bare (y_nilCheck rfl)) rfl rfl rfl ?_
                refine gq_on rfl rfl rfl rfl hg84 ?_
                refine gq (y_bare (y_fieldAddr_box fa60_2 rfl)) rfl rfl rfl ?_
                refine gq_on rfl rfl rfl rfl hg84 ?_
                refine gq (y_bare (y_load Tryd.isAgg3 rfl (cell_box 0 rfl rfl))) rfl rfl rfl ?_
                refine gq_on rfl rfl rfl rfl hg84 ?_
                refine gq (y_bare (y_move (v := .pointer (some ⟨rg, 0, none⟩)) rfl)) rfl rfl rfl ?_
                refine gq_on rfl rfl rfl rfl hg84 ?_
                refine gq (y_bare (y_nilCheck rfl)) rfl rfl rfl ?_
                refine gq_on rfl rfl rfl rfl hg84 ?_
                refine gq (y_bare (y_fieldAddr_box fa60_1 rfl)) rfl rfl rfl ?_
                refine gq_on rfl rfl rfl rfl hg84 ?_
                refine gq (y_bare (y_load Tryd.isAgg9 rfl (cell_box 0 rfl rfl))) rfl rfl rfl ?_
                refine gq_on rfl rfl rfl rfl hg84 ?_
                refine gq (y_bare (y_lens Tryd.underlying9 rfl)) rfl rfl rfl ?_
                refine gq_on rfl rfl rfl rfl hg84 ?_
                refine gq (y_bare (y_lss rfl rfl)) rfl rfl rfl ?_
                refine gq (y_pick_t (v := .bool _) rfl hg84 rfl) rfl rfl rfl ?_
                refine gqs_nil ?_
                refine hN9 _ _ ?_
                refine gfrom [(0, .pointer (some ⟨rg, 0, none⟩)), (95, .bool _)] ⟨rfl, rfl, trivial⟩ fun σ => ?_
                refine gcond (b := _) rfl (fun hc95 => ?_) (fun hc95 => ?_)
                · 
                  replace hc95 := of_decide_eq_true hc95
                  have hN : nextW s j = k + 1 := by rw [nextW, hend, if_pos (by omega)]; omega
                  refine greg ?_
                  refine gop (y_move (v := .pointer (some ⟨rg, 0, none⟩)) rfl) rfl rfl rfl ?_
                  refine gop (y_nilCheck rfl) rfl rfl rfl ?_
                  refine gop (y_fieldAddr_box fa60_3 rfl) rfl rfl rfl ?_
                  refine gop (y_load Tryd.isAgg3 rfl (cell_box 0 rfl rfl)) rfl rfl rfl ?_
                  refine gop (y_add rfl rfl ⟨by omega, by omega⟩) rfl rfl rfl ?_
                  refine gop (y_nilCheck rfl) rfl rfl rfl ?_
                  refine gop (y_fieldAddr_box fa60_3 rfl) rfl rfl rfl ?_
                  refine gop_store 0 (v := .int _ _) (cs' := #[_, _, _, _, _]) rfl rfl Tryd.sizeOf3 rfl rfl rfl rfl (Nat.le_of_ble_eq_true rfl) rfl rfl ?_
                  refine gops_nil ?_
                  intro w1 hM
                  refine ⟨_, res0 rfl, ?_⟩
                  rw [hat, hN]
                  exact ⟨rfl, weak_take (T' := [_, fr]) rfl _ hM⟩
                · 
                  replace hc95 := of_decide_eq_false hc95
                  have hN : nextW s j = k := by rw [nextW, hend, if_neg (by omega)]
                  refine gskip ?_
                  intro w1 hM
                  refine ⟨_, res0 rfl, ?_⟩
                  rw [hat, hN]
                  exact ⟨rfl, weak_take (T' := [_, fr]) rfl _ hM⟩
              · 
                have hg84d := of_decide_eq_false hg84
                refine gq_off rfl rfl rfl rfl hg84 rfl rfl ?_
                refine gq_off rfl rfl rfl rfl hg84 rfl rfl ?_
                refine gq_off rfl rfl rfl rfl hg84 rfl rfl ?_
                refine gq_off rfl rfl rfl rfl hg84 rfl rfl ?_
                refine gq_off rfl rfl rfl rfl hg84 rfl rfl ?_
                refine gq_off rfl rfl rfl rfl hg84 rfl rfl ?_
                refine gq_off rfl rfl rfl rfl hg84 rfl rfl ?_
                refine gq_off rfl rfl rfl rfl hg84 rfl rfl ?_
                refine gq_off rfl rfl rfl rfl hg84 rfl rfl ?_
                refine gq (y_pick_f (v := .bool _) rfl hg84 rfl) rfl rfl rfl ?_
                refine gqs_nil ?_
                refine hN9 _ _ ?_
                refine gfrom [(0, .pointer (some ⟨rg, 0, none⟩)), (95, .bool _)] ⟨rfl, rfl, trivial⟩ fun σ => ?_
                refine gcond (b := _) rfl (fun hc95 => ?_) (fun hc95 => ?_)
                · 
                  cases hc95
                · 
                  have hN : nextW s j = k := by rw [nextW, hend, if_neg (by omega)]
                  refine gskip ?_
                  intro w1 hM
                  refine ⟨_, res0 rfl, ?_⟩
                  rw [hat, hN]
                  exact ⟨rfl, weak_take (T' := [_, fr]) rfl _ hM⟩
          · 
            have hg55d := of_decide_eq_false hg55
            refine gq_off rfl rfl rfl rfl hg55 rfl rfl ?_
            refine gq_off rfl rfl rfl rfl hg55 rfl rfl ?_
            refine gq_off rfl rfl rfl rfl hg55 rfl rfl ?_
            refine gq_off rfl rfl rfl rfl hg55 rfl rfl ?_
            refine gq_off rfl rfl rfl rfl hg55 rfl rfl ?_
            refine gq_off rfl rfl rfl rfl hg55 rfl rfl ?_
            refine gq_off rfl rfl rfl rfl hg55 rfl rfl ?_
            refine gq_off rfl rfl rfl rfl hg55 rfl rfl ?_
            refine gq_off rfl rfl rfl rfl hg55 rfl rfl ?_
            refine gq_off rfl rfl rfl rfl hg55 rfl rfl ?_
            refine gq (y_pick_f (v := .bool _) rfl hg55 rfl) rfl rfl rfl ?_
            refine gqs_nil ?_
            refine hN8 _ _ ?_
            refine gfrom [(0, .pointer (some ⟨rg, 0, none⟩)), (67, .bool _)] ⟨rfl, rfl, trivial⟩ fun σ => ?_
            refine gcond (b := _) rfl (fun hc67 => ?_) (fun hc67 => ?_)
            · 
              cases hc67
            · 
              have hend : endW s j = k := by
                rw [← hks]
                refine run_stop (fun h => ?_)
                by_cases hw : woB s k = true
                · exact absurd ((sep_idx s k).2 hw) (by omega)
                · simpa using hw
              refine gexit ?_
              refine hN6 _ _ ?_
              refine gfrom [(0, .pointer (some ⟨rg, 0, none⟩))] ⟨rfl, trivial⟩ fun σ => ?_
              refine gseq fun N10 hN10 => ?_
              refine greg_q (by kernel_rfl) (by kernel_rfl) ?_
              refine gq (y_move (v := .pointer (some ⟨rg, 0, none⟩)) rfl) rfl rfl rfl ?_
              refine gq (y_nilCheck rfl) rfl rfl rfl ?_
              refine gq (y_fieldAddr_box fa60_3 rfl) rfl rfl rfl ?_
              refine gq (y_load Tryd.isAgg3 rfl (cell_box 0 rfl rfl)) rfl rfl rfl ?_
              refine gq (y_move (v := .pointer (some ⟨rg, 0, none⟩)) rfl) rfl rfl rfl ?_
              refine gq (y_nilCheck rfl) rfl rfl rfl ?_
              refine gq (y_fieldAddr_box fa60_2 rfl) rfl rfl rfl ?_
              refine gq (y_load Tryd.isAgg3 rfl (cell_box 0 rfl rfl)) rfl rfl rfl ?_
              refine gq (y_eql rfl rfl) rfl rfl rfl ?_
              refine gq (y_move (v := .bool _) rfl) rfl rfl rfl ?_
              refine gq_if (want := true) rfl rfl rfl rfl rfl rfl (fun hg84 => ?_) (fun hg84 => ?_)
              · 
                have hg84d := of_decide_eq_true hg84
                refine gq (y_bare (y_move (v := .pointer (some ⟨rg, 0, none⟩)) rfl)) rfl rfl rfl ?_
                refine gq_on rfl rfl rfl rfl hg84 ?_
                refine gq (y_bare (y_nilCheck rfl)) rfl rfl rfl ?_
                refine gq_on rfl rfl rfl rfl hg84 ?_
                refine gq (y_bare (y_fieldAddr_box fa60_2 rfl)) rfl rfl rfl ?_
                refine gq_on rfl rfl rfl rfl hg84 ?_
                refine gq (y_bare (y_load Tryd.isAgg3 rfl (cell_box 0 rfl rfl))) rfl rfl rfl ?_
                refine gq_on rfl rfl rfl rfl hg84 ?_
                refine gq (y_bare (y_move (v := .pointer (some ⟨rg, 0, none⟩)) rfl)) rfl rfl rfl ?_
                refine gq_on rfl rfl rfl rfl hg84 ?_
                refine gq (y_bare (y_nilCheck rfl)) rfl rfl rfl ?_
                refine gq_on rfl rfl rfl rfl hg84 ?_
                refine gq (y_bare (y_fieldAddr_box fa60_1 rfl)) rfl rfl rfl ?_
                refine gq_on rfl rfl rfl rfl hg84 ?_
                refine gq (y_bare (y_load Tryd.isAgg9 rfl (cell_box 0 rfl rfl))) rfl rfl rfl ?_
                refine gq_on rfl rfl rfl rfl hg84 ?_
                refine gq (y_bare (y_lens Tryd.underlying9 rfl)) rfl rfl rfl ?_
                refine gq_on rfl rfl rfl rfl hg84 ?_
                refine gq (y_bare (y_lss rfl rfl)) rfl rfl rfl ?_
                refine gq (y_pick_t (v := .bool _) rfl hg84 rfl) rfl rfl rfl ?_
                refine gqs_nil ?_
                refine hN10 _ _ ?_
                refine gfrom [(0, .pointer (some ⟨rg, 0, none⟩)), (95, .bool _)] ⟨rfl, rfl, trivial⟩ fun σ => ?_
                refine gcond (b := _) rfl (fun hc95 => ?_) (fun hc95 => ?_)
                · 
                  replace hc95 := of_decide_eq_true hc95
                  have hN : nextW s j = k + 1 := by rw [nextW, hend, if_pos (by omega)]; omega
                  refine greg ?_
                  refine gop (y_move (v := .pointer (some ⟨rg, 0, none⟩)) rfl) rfl rfl rfl ?_
                  refine gop (y_nilCheck rfl) rfl rfl rfl ?_
                  refine gop (y_fieldAddr_box fa60_3 rfl) rfl rfl rfl ?_
                  refine gop (y_load Tryd.isAgg3 rfl (cell_box 0 rfl rfl)) rfl rfl rfl ?_
                  refine gop (y_add rfl rfl ⟨by omega, by omega⟩) rfl rfl rfl ?_
                  refine gop (y_nilCheck rfl) rfl rfl rfl ?_
                  refine gop (y_fieldAddr_box fa60_3 rfl) rfl rfl rfl ?_
                  refine gop_store 0 (v := .int _ _) (cs' := #[_, _, _, _, _]) rfl rfl Tryd.sizeOf3 rfl rfl rfl rfl (Nat.le_of_ble_eq_true rfl) rfl rfl ?_
                  refine gops_nil ?_
                  intro w1 hM
                  refine ⟨_, res0 rfl, ?_⟩
                  rw [hat, hN]
                  exact ⟨rfl, weak_take (T' := [_, fr]) rfl _ hM⟩
                · 
                  replace hc95 := of_decide_eq_false hc95
                  have hN : nextW s j = k := by rw [nextW, hend, if_neg (by omega)]
                  refine gskip ?_
                  intro w1 hM
                  refine ⟨_, res0 rfl, ?_⟩
                  rw [hat, hN]
                  exact ⟨rfl, weak_take (T' := [_, fr]) rfl _ hM⟩
              · 
                have hg84d := of_decide_eq_false hg84
                refine gq_off rfl rfl rfl rfl hg84 rfl rfl ?_
                refine gq_off rfl rfl rfl rfl hg84 rfl rfl ?_
                refine gq_off rfl rfl rfl rfl hg84 rfl rfl ?_
                refine gq_off rfl rfl rfl rfl hg84 rfl rfl ?_
                refine gq_off rfl rfl rfl rfl hg84 rfl rfl ?_
                refine gq_off rfl rfl rfl rfl hg84 rfl rfl ?_
                refine gq_off rfl rfl rfl rfl hg84 rfl rfl ?_
                refine gq_off rfl rfl rfl rfl hg84 rfl rfl ?_
                refine gq_off rfl rfl rfl rfl hg84 rfl rfl ?_
                refine gq (y_pick_f (v := .bool _) rfl hg84 rfl) rfl rfl rfl ?_
                refine gqs_nil ?_
                refine hN10 _ _ ?_
                refine gfrom [(0, .pointer (some ⟨rg, 0, none⟩)), (95, .bool _)] ⟨rfl, rfl, trivial⟩ fun σ => ?_
                refine gcond (b := _) rfl (fun hc95 => ?_) (fun hc95 => ?_)
                · 
                  cases hc95
                · 
                  have hN : nextW s j = k := by rw [nextW, hend, if_neg (by omega)]
                  refine gskip ?_
                  intro w1 hM
                  refine ⟨_, res0 rfl, ?_⟩
                  rw [hat, hN]
                  exact ⟨rfl, weak_take (T' := [_, fr]) rfl _ hM⟩
    · 
      have hg19d := of_decide_eq_false hg19
      refine gq_off rfl rfl rfl rfl hg19 rfl rfl ?_
      refine gq_off rfl rfl rfl rfl hg19 rfl rfl ?_
      refine gq_off rfl rfl rfl rfl hg19 rfl rfl ?_
      refine gq_off rfl rfl rfl rfl hg19 rfl rfl ?_
      refine gq_off rfl rfl rfl rfl hg19 rfl rfl ?_
      refine gq_off rfl rfl rfl rfl hg19 rfl rfl ?_
      refine gq_off rfl rfl rfl rfl hg19 rfl rfl ?_
      refine gq_off rfl rfl rfl rfl hg19 rfl rfl ?_
      refine gq_off rfl rfl rfl rfl hg19 rfl rfl ?_
      refine gq (y_pick_f (v := .bool _) rfl hg19 rfl) rfl rfl rfl ?_
      refine gqs_nil ?_
      refine hN4 _ _ ?_
      refine gfrom [(0, .pointer (some ⟨rg, 0, none⟩)), (30, .bool _)] ⟨rfl, rfl, trivial⟩ fun σ => ?_
      refine gcond (b := _) rfl (fun hc30 => ?_) (fun hc30 => ?_)
      · 
        cases hc30
      · 
        have hat : skipW s nx = j := by rw [← hjs]; exact run_stop (fun h => decide_eq_false (by omega))
        refine gexit ?_
        refine hN2 _ _ ?_
        refine gfrom [(0, .pointer (some ⟨rg, 0, none⟩))] ⟨rfl, trivial⟩ fun σ => ?_
        refine gseq fun N11 hN11 => ?_
        refine greg ?_
        refine gop (y_move (v := .pointer (some ⟨rg, 0, none⟩)) rfl) rfl rfl rfl ?_
        refine gop (y_move (v := .pointer (some ⟨rg, 0, none⟩)) rfl) rfl rfl rfl ?_
        refine gop (y_nilCheck rfl) rfl rfl rfl ?_
        refine gop (y_fieldAddr_box fa60_2 rfl) rfl rfl rfl ?_
        refine gop (y_load Tryd.isAgg3 rfl (cell_box 0 rfl rfl)) rfl rfl rfl ?_
        refine gop (y_nilCheck rfl) rfl rfl rfl ?_
        refine gop (y_fieldAddr_box fa60_3 rfl) rfl rfl rfl ?_
        refine gop_store 0 (v := .int _ _) (cs' := #[_, _, _, _, _]) rfl rfl Tryd.sizeOf3 rfl rfl rfl rfl (Nat.le_of_ble_eq_true rfl) rfl rfl ?_
        refine gops_nil ?_
        refine hN11 _ _ ?_
        refine gT [box rg _, fr] rfl ?_
        refine gfrom [(0, .pointer (some ⟨rg, 0, none⟩))] ⟨rfl, trivial⟩ fun σ => ?_
        refine gseq fun N12 hN12 => ?_
        refine gblock ?_
        refine gfrom2 [] [(0, .pointer (some ⟨rg, 0, none⟩))] trivial ⟨rfl, trivial⟩ fun σ => ?_
        refine gloop2 (G := Nat) (fun k => k ≤ s.size ∧ endW s k = endW s j) (fun k => s.size - k) (fun k => []) (fun k => [(0, box rg (.cells #[.slice B n bc, .string s, .int .i64 ((j : Nat)), .int .i64 ((k : Nat)), .int .i64 code] 60))]) (j) ?h0 trivial ⟨rfl, trivial⟩ rfl ?round
        case h0 => exact ⟨hj, rfl⟩
        case round =>
          intro k hφ σ
          obtain ⟨hk, hks⟩ := hφ
          refine gT [box rg _, fr] rfl ?_
          refine gseq fun N13 hN13 => ?_
          refine gseq fun N14 hN14 => ?_
          refine greg_q (by kernel_rfl) (by kernel_rfl) ?_
          refine gq (y_move (v := .pointer (some ⟨rg, 0, none⟩)) rfl) rfl rfl rfl ?_
          refine gq (y_nilCheck rfl) rfl rfl rfl ?_
          refine gq (y_fieldAddr_box fa60_3 rfl) rfl rfl rfl ?_
          refine gq (y_load Tryd.isAgg3 rfl (cell_box 0 rfl rfl)) rfl rfl rfl ?_
          refine gq (y_move (v := .pointer (some ⟨rg, 0, none⟩)) rfl) rfl rfl rfl ?_
          refine gq (y_nilCheck rfl) rfl rfl rfl ?_
          refine gq (y_fieldAddr_box fa60_1 rfl) rfl rfl rfl ?_
          refine gq (y_load Tryd.isAgg9 rfl (cell_box 0 rfl rfl)) rfl rfl rfl ?_
          refine gq (y_lens Tryd.underlying9 rfl) rfl rfl rfl ?_
          refine gq (y_lss rfl rfl) rfl rfl rfl ?_
          refine gq (y_move (v := .bool _) rfl) rfl rfl rfl ?_
          refine gq_if (want := true) rfl rfl rfl rfl rfl rfl (fun hg55 => ?_) (fun hg55 => ?_)
          · 
            have hg55d := of_decide_eq_true hg55
            refine gq (y_bare (y_move (v := .pointer (some ⟨rg, 0, none⟩)) rfl)) rfl rfl rfl ?_
            refine gq_on rfl rfl rfl rfl hg55 ?_
            refine gq (y_bare (y_nilCheck rfl)) rfl rfl rfl ?_
            refine gq_on rfl rfl rfl rfl hg55 ?_
            refine gq (y_bare (y_fieldAddr_box fa60_1 rfl)) rfl rfl rfl ?_
            refine gq_on rfl rfl rfl rfl hg55 ?_
            refine gq (y_bare (y_load Tryd.isAgg9 rfl (cell_box 0 rfl rfl))) rfl rfl rfl ?_
            refine gq_on rfl rfl rfl rfl hg55 ?_
            refine gq (y_bare (y_move (v := .pointer (some ⟨rg, 0, none⟩)) rfl)) rfl rfl rfl ?_
            refine gq_on rfl rfl rfl rfl hg55 ?_
            refine gq (y_bare (y_nilCheck rfl)) rfl rfl rfl ?_
            refine gq_on rfl rfl rfl rfl hg55 ?_
            refine gq (y_bare (y_fieldAddr_box fa60_3 rfl)) rfl rfl rfl ?_
            refine gq_on rfl rfl rfl rfl hg55 ?_
            refine gq (y_bare (y_load Tryd.isAgg3 rfl (cell_box 0 rfl rfl))) rfl rfl rfl ?_
            refine gq_on rfl rfl rfl rfl hg55 ?_
            refine gq (y_bare (y_stridx (m := k) Tryd.underlying9 rfl rfl (by omega) (by omega) (by omega))) rfl rfl rfl ?_
            refine gq_on rfl rfl rfl rfl hg55 ?_
            refine gq_pure (e_call (vs := [_, .int _ _]) Tryd.func43 rfl (by kernel_rfl) rfl) (fun w hM => indexByte_any w _ _) rfl rfl rfl ?_
            refine gq_on rfl rfl rfl rfl hg55 ?_
            refine gq (y_bare (y_lss rfl rfl)) rfl rfl rfl ?_
            refine gq (y_pick_t (v := .bool _) rfl hg55 rfl) rfl rfl rfl ?_
            refine gqs_nil ?_
            refine hN14 _ _ ?_
            refine gfrom [(0, .pointer (some ⟨rg, 0, none⟩)), (67, .bool _)] ⟨rfl, rfl, trivial⟩ fun σ => ?_
            refine gcond (b := _) rfl (fun hc67 => ?_) (fun hc67 => ?_)
            · 
              replace hc67 := of_decide_eq_true hc67
              have hk1 : k < s.size := by omega
              have hw : woB s k = true := (sep_idx s k).1 (by omega)
              refine gskip ?_
              refine hN13 _ _ ?_
              refine gfrom [(0, .pointer (some ⟨rg, 0, none⟩))] ⟨rfl, trivial⟩ fun σ => ?_
              refine gblock ?_
              refine greg ?_
              refine gop (y_move (v := .pointer (some ⟨rg, 0, none⟩)) rfl) rfl rfl rfl ?_
              refine gop (y_nilCheck rfl) rfl rfl rfl ?_
              refine gop (y_fieldAddr_box fa60_3 rfl) rfl rfl rfl ?_
              refine gop (y_load Tryd.isAgg3 rfl (cell_box 0 rfl rfl)) rfl rfl rfl ?_
              refine gop (y_add rfl rfl ⟨by omega, by omega⟩) rfl rfl rfl ?_
              refine gop (y_nilCheck rfl) rfl rfl rfl ?_
              refine gop (y_fieldAddr_box fa60_3 rfl) rfl rfl rfl ?_
              refine gop_store 0 (v := .int _ _) (cs' := #[_, _, _, _, _]) rfl rfl Tryd.sizeOf3 rfl rfl rfl rfl (Nat.le_of_ble_eq_true rfl) rfl rfl ?_
              refine gops_nil ?_
              refine gnext2 (k + 1) (by omega) (⟨by show k + 1 ≤ _; omega, by rw [← hks]; exact (run_step hk1 hw).symm⟩) trivial ⟨rfl, trivial⟩ ⟨_, rfl⟩
            · 
              replace hc67 := of_decide_eq_false hc67
              have hend : endW s j = k := by
                rw [← hks]
                refine run_stop (fun h => ?_)
                by_cases hw : woB s k = true
                · exact absurd ((sep_idx s k).2 hw) (by omega)
                · simpa using hw
              refine gexit ?_
              refine hN12 _ _ ?_
              refine gfrom [(0, .pointer (some ⟨rg, 0, none⟩))] ⟨rfl, trivial⟩ fun σ => ?_
              refine gseq fun N15 hN15 => ?_
              refine greg_q (by kernel_rfl) (by kernel_rfl) ?_
              refine gq (y_move (v := .pointer (some ⟨rg, 0, none⟩)) rfl) rfl rfl rfl ?_
              refine gq (y_nilCheck rfl) rfl rfl rfl ?_
              refine gq (y_fieldAddr_box fa60_3 rfl) rfl rfl rfl ?_
              refine gq (y_load Tryd.isAgg3 rfl (cell_box 0 rfl rfl)) rfl rfl rfl ?_
              refine gq (y_move (v := .pointer (some ⟨rg, 0, none⟩)) rfl) rfl rfl rfl ?_
              refine gq (y_nilCheck rfl) rfl rfl rfl ?_
              refine gq (y_fieldAddr_box fa60_2 rfl) rfl rfl rfl ?_
              refine gq (y_load Tryd.isAgg3 rfl (cell_box 0 rfl rfl)) rfl rfl rfl ?_
              refine gq (y_eql rfl rfl) rfl rfl rfl ?_
              refine gq (y_move (v := .bool _) rfl) rfl rfl rfl ?_
              refine gq_if (want := true) rfl rfl rfl rfl rfl rfl (fun hg84 => ?_) (fun hg84 => ?_)
              · 
                have hg84d := of_decide_eq_true hg84
                refine gq (y_bare (y_move (v := .pointer (some ⟨rg, 0, none⟩)) rfl)) rfl rfl rfl ?_
                refine gq_on rfl rfl rfl rfl hg84 ?_
                refine gq (y_bare (y_nilCheck rfl)) rfl rfl rfl ?_
                refine gq_on rfl rfl rfl rfl hg84 ?_
                refine gq (y_bare (y_fieldAddr_box fa60_2 rfl)) rfl rfl rfl ?_
                refine gq_on rfl rfl rfl rfl hg84 ?_
                refine gq (y_bare (y_load Tryd.isAgg3 rfl (cell_box 0 rfl rfl))) rfl rfl rfl ?_
                refine gq_on rfl rfl rfl rfl hg84 ?_
                refine gq (y_bare (y_move (v := .pointer (some ⟨rg, 0, none⟩)) rfl)) rfl rfl rfl ?_
                refine gq_on rfl rfl rfl rfl hg84 ?_
                refine gq (y_bare (y_nilCheck rfl)) rfl rfl rfl ?_
                refine gq_on rfl rfl rfl rfl hg84 ?_
                refine gq (y_bare (y_fieldAddr_box fa60_1 rfl)) rfl rfl rfl ?_
                refine gq_on rfl rfl rfl rfl hg84 ?_
                refine gq (y_bare (y_load Tryd.isAgg9 rfl (cell_box 0 rfl rfl))) rfl rfl rfl ?_
                refine gq_on rfl rfl rfl rfl hg84 ?_
                refine gq (y_bare (y_lens Tryd.underlying9 rfl)) rfl rfl rfl ?_
                refine gq_on rfl rfl rfl rfl hg84 ?_
                refine gq (y_bare (y_lss rfl rfl)) rfl rfl rfl ?_
                refine gq (y_pick_t (v := .bool _) rfl hg84 rfl) rfl rfl rfl ?_
                refine gqs_nil ?_
                refine hN15 _ _ ?_
                refine gfrom [(0, .pointer (some ⟨rg, 0, none⟩)), (95, .bool _)] ⟨rfl, rfl, trivial⟩ fun σ => ?_
                refine gcond (b := _) rfl (fun hc95 => ?_) (fun hc95 => ?_)
                · 
                  replace hc95 := of_decide_eq_true hc95
                  have hN : nextW s j = k + 1 := by rw [nextW, hend, if_pos (by omega)]; omega
                  refine greg ?_
                  refine gop (y_move (v := .pointer (some ⟨rg, 0, none⟩)) rfl) rfl rfl rfl ?_
                  refine gop (y_nilCheck rfl) rfl rfl rfl ?_
                  refine gop (y_fieldAddr_box fa60_3 rfl) rfl rfl rfl ?_
                  refine gop (y_load Tryd.isAgg3 rfl (cell_box 0 rfl rfl)) rfl rfl rfl ?_
                  refine gop (y_add rfl rfl ⟨by omega, by omega⟩) rfl rfl rfl ?_
                  refine gop (y_nilCheck rfl) rfl rfl rfl ?_
                  refine gop (y_fieldAddr_box fa60_3 rfl) rfl rfl rfl ?_
                  refine gop_store 0 (v := .int _ _) (cs' := #[_, _, _, _, _]) rfl rfl Tryd.sizeOf3 rfl rfl rfl rfl (Nat.le_of_ble_eq_true rfl) rfl rfl ?_
                  refine gops_nil ?_
                  intro w1 hM
                  refine ⟨_, res0 rfl, ?_⟩
                  rw [hat, hN]
                  exact ⟨rfl, weak_take (T' := [_, fr]) rfl _ hM⟩
                · 
                  replace hc95 := of_decide_eq_false hc95
                  have hN : nextW s j = k := by rw [nextW, hend, if_neg (by omega)]
                  refine gskip ?_
                  intro w1 hM
                  refine ⟨_, res0 rfl, ?_⟩
                  rw [hat, hN]
                  exact ⟨rfl, weak_take (T' := [_, fr]) rfl _ hM⟩
              · 
                have hg84d := of_decide_eq_false hg84
                refine gq_off rfl rfl rfl rfl hg84 rfl rfl ?_
                refine gq_off rfl rfl rfl rfl hg84 rfl rfl ?_
                refine gq_off rfl rfl rfl rfl hg84 rfl rfl ?_
                refine gq_off rfl rfl rfl rfl hg84 rfl rfl ?_
                refine gq_off rfl rfl rfl rfl hg84 rfl rfl ?_
                refine gq_off rfl rfl rfl rfl hg84 rfl rfl ?_
                refine gq_off rfl rfl rfl rfl hg84 rfl rfl ?_
                refine gq_off rfl rfl rfl rfl hg84 rfl rfl ?_
                refine gq_off rfl rfl rfl rfl hg84 rfl rfl ?_
                refine gq (y_pick_f (v := .bool _) rfl hg84 rfl) rfl rfl rfl ?_
                refine gqs_nil ?_
                refine hN15 _ _ ?_
                refine gfrom [(0, .pointer (some ⟨rg, 0, none⟩)), (95, .bool _)] ⟨rfl, rfl, trivial⟩ fun σ => ?_
                refine gcond (b := _) rfl (fun hc95 => ?_) (fun hc95 => ?_)
                · 
                  cases hc95
                · 
                  have hN : nextW s j = k := by rw [nextW, hend, if_neg (by omega)]
                  refine gskip ?_
                  intro w1 hM
                  refine ⟨_, res0 rfl, ?_⟩
                  rw [hat, hN]
                  exact ⟨rfl, weak_take (T' := [_, fr]) rfl _ hM⟩
          · 
            have hg55d := of_decide_eq_false hg55
            refine gq_off rfl rfl rfl rfl hg55 rfl rfl ?_
            refine gq_off rfl rfl rfl rfl hg55 rfl rfl ?_
            refine gq_off rfl rfl rfl rfl hg55 rfl rfl ?_
            refine gq_off rfl rfl rfl rfl hg55 rfl rfl ?_
            refine gq_off rfl rfl rfl rfl hg55 rfl rfl ?_
            refine gq_off rfl rfl rfl rfl hg55 rfl rfl ?_
            refine gq_off rfl rfl rfl rfl hg55 rfl rfl ?_
            refine gq_off rfl rfl rfl rfl hg55 rfl rfl ?_
            refine gq_off rfl rfl rfl rfl hg55 rfl rfl ?_
            refine gq_off rfl rfl rfl rfl hg55 rfl rfl ?_
            refine gq (y_pick_f (v := .bool _) rfl hg55 rfl) rfl rfl rfl ?_
            refine gqs_nil ?_
            refine hN14 _ _ ?_
            refine gfrom [(0, .pointer (some ⟨rg, 0, none⟩)), (67, .bool _)] ⟨rfl, rfl, trivial⟩ fun σ => ?_
            refine gcond (b := _) rfl (fun hc67 => ?_) (fun hc67 => ?_)
            · 
              cases hc67
            · 
              have hend : endW s j = k := by
                rw [← hks]
                refine run_stop (fun h => ?_)
                by_cases hw : woB s k = true
                · exact absurd ((sep_idx s k).2 hw) (by omega)
                · simpa using hw
              refine gexit ?_
              refine hN12 _ _ ?_
              refine gfrom [(0, .pointer (some ⟨rg, 0, none⟩))] ⟨rfl, trivial⟩ fun σ => ?_
              refine gseq fun N16 hN16 => ?_
              refine greg_q (by kernel_rfl) (by kernel_rfl) ?_
              refine gq (y_move (v := .pointer (some ⟨rg, 0, none⟩)) rfl) rfl rfl rfl ?_
              refine gq (y_nilCheck rfl) rfl rfl rfl ?_
              refine gq (y_fieldAddr_box fa60_3 rfl) rfl rfl rfl ?_
              refine gq (y_load Tryd.isAgg3 rfl (cell_box 0 rfl rfl)) rfl rfl rfl ?_
              refine gq (y_move (v := .pointer (some ⟨rg, 0, none⟩)) rfl) rfl rfl rfl ?_
              refine gq (y_nilCheck rfl) rfl rfl rfl ?_
              refine gq (y_fieldAddr_box fa60_2 rfl) rfl rfl rfl ?_
              refine gq (y_load Tryd.isAgg3 rfl (cell_box 0 rfl rfl)) rfl rfl rfl ?_
              refine gq (y_eql rfl rfl) rfl rfl rfl ?_
              refine gq (y_move (v := .bool _) rfl) rfl rfl rfl ?_
              refine gq_if (want := true) rfl rfl rfl rfl rfl rfl (fun hg84 => ?_) (fun hg84 => ?_)
              · 
                have hg84d := of_decide_eq_true hg84
                refine gq (y_bare (y_move (v := .pointer (some ⟨rg, 0, none⟩)) rfl)) rfl rfl rfl ?_
                refine gq_on rfl rfl rfl rfl hg84 ?_
                refine gq (y_bare (y_nilCheck rfl)) rfl rfl rfl ?_
                refine gq_on rfl rfl rfl rfl hg84 ?_
                refine gq (y_bare (y_fieldAddr_box fa60_2 rfl)) rfl rfl rfl ?_
                refine gq_on rfl rfl rfl rfl hg84 ?_
                refine gq (y_bare (y_load Tryd.isAgg3 rfl (cell_box 0 rfl rfl))) rfl rfl rfl ?_
                refine gq_on rfl rfl rfl rfl hg84 ?_
                refine gq (y_bare (y_move (v := .pointer (some ⟨rg, 0, none⟩)) rfl)) rfl rfl rfl ?_
                refine gq_on rfl rfl rfl rfl hg84 ?_
                refine gq (y_bare (y_nilCheck rfl)) rfl rfl rfl ?_
                refine gq_on rfl rfl rfl rfl hg84 ?_
                refine gq (y_bare (y_fieldAddr_box fa60_1 rfl)) rfl rfl rfl ?_
                refine gq_on rfl rfl rfl rfl hg84 ?_
                refine gq (y_bare (y_load Tryd.isAgg9 rfl (cell_box 0 rfl rfl))) rfl rfl rfl ?_
                refine gq_on rfl rfl rfl rfl hg84 ?_
                refine gq (y_bare (y_lens Tryd.underlying9 rfl)) rfl rfl rfl ?_
                refine gq_on rfl rfl rfl rfl hg84 ?_
                refine gq (y_bare (y_lss rfl rfl)) rfl rfl rfl ?_
                refine gq (y_pick_t (v := .bool _) rfl hg84 rfl) rfl rfl rfl ?_
                refine gqs_nil ?_
                refine hN16 _ _ ?_
                refine gfrom [(0, .pointer (some ⟨rg, 0, none⟩)), (95, .bool _)] ⟨rfl, rfl, trivial⟩ fun σ => ?_
                refine gcond (b := _) rfl (fun hc95 => ?_) (fun hc95 => ?_)
                · 
                  replace hc95 := of_decide_eq_true hc95
                  have hN : nextW s j = k + 1 := by rw [nextW, hend, if_pos (by omega)]; omega
                  refine greg ?_
                  refine gop (y_move (v := .pointer (some ⟨rg, 0, none⟩)) rfl) rfl rfl rfl ?_
                  refine gop (y_nilCheck rfl) rfl rfl rfl ?_
                  refine gop (y_fieldAddr_box fa60_3 rfl) rfl rfl rfl ?_
                  refine gop (y_load Tryd.isAgg3 rfl (cell_box 0 rfl rfl)) rfl rfl rfl ?_
                  refine gop (y_add rfl rfl ⟨by omega, by omega⟩) rfl rfl rfl ?_
                  refine gop (y_nilCheck rfl) rfl rfl rfl ?_
                  refine gop (y_fieldAddr_box fa60_3 rfl) rfl rfl rfl ?_
                  refine gop_store 0 (v := .int _ _) (cs' := #[_, _, _, _, _]) rfl rfl Tryd.sizeOf3 rfl rfl rfl rfl (Nat.le_of_ble_eq_true rfl) rfl rfl ?_
                  refine gops_nil ?_
                  intro w1 hM
                  refine ⟨_, res0 rfl, ?_⟩
                  rw [hat, hN]
                  exact ⟨rfl, weak_take (T' := [_, fr]) rfl _ hM⟩
                · 
                  replace hc95 := of_decide_eq_false hc95
                  have hN : nextW s j = k := by rw [nextW, hend, if_neg (by omega)]
                  refine gskip ?_
                  intro w1 hM
                  refine ⟨_, res0 rfl, ?_⟩
                  rw [hat, hN]
                  exact ⟨rfl, weak_take (T' := [_, fr]) rfl _ hM⟩
              · 
                have hg84d := of_decide_eq_false hg84
                refine gq_off rfl rfl rfl rfl hg84 rfl rfl ?_
                refine gq_off rfl rfl rfl rfl hg84 rfl rfl ?_
                refine gq_off rfl rfl rfl rfl hg84 rfl rfl ?_
                refine gq_off rfl rfl rfl rfl hg84 rfl rfl ?_
                refine gq_off rfl rfl rfl rfl hg84 rfl rfl ?_
                refine gq_off rfl rfl rfl rfl hg84 rfl rfl ?_
                refine gq_off rfl rfl rfl rfl hg84 rfl rfl ?_
                refine gq_off rfl rfl rfl rfl hg84 rfl rfl ?_
                refine gq_off rfl rfl rfl rfl hg84 rfl rfl ?_
                refine gq (y_pick_f (v := .bool _) rfl hg84 rfl) rfl rfl rfl ?_
                refine gqs_nil ?_
                refine hN16 _ _ ?_
                refine gfrom [(0, .pointer (some ⟨rg, 0, none⟩)), (95, .bool _)] ⟨rfl, rfl, trivial⟩ fun σ => ?_
                refine gcond (b := _) rfl (fun hc95 => ?_) (fun hc95 => ?_)
                · 
                  cases hc95
                · 
                  have hN : nextW s j = k := by rw [nextW, hend, if_neg (by omega)]
                  refine gskip ?_
                  intro w1 hM
                  refine ⟨_, res0 rfl, ?_⟩
                  rw [hat, hN]
                  exact ⟨rfl, weak_take (T' := [_, fr]) rfl _ hM⟩
end Go.Proofs.YtllblbkbglifjaaDoor
namespace Go.Proofs.YtllblbkbglifjaaDoor
open Go.RowKit Go.Cf
set_option maxRecDepth 10000
theorem fa60_4 (a : Addr) (w : World) : (Instr.fieldAt 60 (.pointer (some a)) 4).run Tryd.prog w = .ok (.pointer (some (a.add 4))) w := by kernel_rfl
set_option maxHeartbeats 1000000 in
theorem rdWord_any (w : World) (rg : Nat) (s : ByteArray) (a x : Nat) (hax : a ≤ x) (hxs : x ≤ s.size) (h1 : w.cell? ⟨rg, 1, none⟩ = some (.string s)) (h2 : w.cell? ⟨rg, 2, none⟩ = some (.int .i64 (a : Int))) (h3 : w.cell? ⟨rg, 3, none⟩ = some (.int .i64 (x : Int))) : Calls Tryd.prog 49 #[.pointer (some ⟨rg, 0, none⟩)] w fun e w' => e = .returned (.string (s.extract a x)) ∧ Below w.heap.size w w' := by
  refine gcalls Tryd.func49 rfl Tryd.ntmps49 (Nat.le_of_ble_eq_true rfl) ?_
  refine gfrom [(0, .pointer (some ⟨rg, 0, none⟩))] ⟨rfl, trivial⟩ fun σ => ?_
  refine gseq fun N1 hN1 => ?_
  refine greg ?_
  refine gop (y_assign (v := .string _) rfl) rfl rfl rfl ?_
  refine gops_nil ?_
  refine hN1 _ _ ?_
  refine gfrom [(0, .pointer (some ⟨rg, 0, none⟩))] ⟨rfl, trivial⟩ fun σ => ?_
  refine gseq fun N2 hN2 => ?_
  refine greg_q (by kernel_rfl) (by kernel_rfl) ?_
  refine gq (y_move (v := .pointer (some ⟨rg, 0, none⟩)) rfl) rfl rfl rfl ?_
  refine gq (y_nilCheck rfl) rfl rfl rfl ?_
  refine gq (y_fieldAddr_box fa60_1 rfl) rfl rfl rfl ?_
  refine gq (y_load Tryd.isAgg9 rfl (cell_base h1)) rfl rfl rfl ?_
  refine gq (y_move (v := .pointer (some ⟨rg, 0, none⟩)) rfl) rfl rfl rfl ?_
  refine gq (y_nilCheck rfl) rfl rfl rfl ?_
  refine gq (y_fieldAddr_box fa60_2 rfl) rfl rfl rfl ?_
  refine gq (y_load Tryd.isAgg3 rfl (cell_base h2)) rfl rfl rfl ?_
  refine gq (y_move (v := .pointer (some ⟨rg, 0, none⟩)) rfl) rfl rfl rfl ?_
  refine gq (y_nilCheck rfl) rfl rfl rfl ?_
  refine gq (y_fieldAddr_box fa60_3 rfl) rfl rfl rfl ?_
  refine gq (y_load Tryd.isAgg3 rfl (cell_base h3)) rfl rfl rfl ?_
  refine gq (y_strslice Tryd.underlying9 rfl rfl rfl (by omega) (by omega) (by omega)) rfl rfl rfl ?_
  refine gq (y_assign (v := .string _) rfl) rfl rfl rfl ?_
  refine gqs_nil ?_
  refine hN2 _ _ ?_
  refine gfrom [(2, .string _)] ⟨rfl, trivial⟩ fun σ => ?_
  refine gret fun w1 hM => ?_
  refine ⟨_, res1 rfl (rt (v := .string _) rfl), ?_⟩
  exact ⟨by simp, hM.low⟩
set_option maxHeartbeats 4000000 in
theorem rdTake_any (w0 w : World) (rg n bc : Nat) (B : Option Addr) (s : ByteArray) (code : Int) (fr : Reg) (hs : s.size ≤ 200) (a : Nat) (ts : List Tk) (hrs : RS s a ts) (x : ByteArray) (hM0 : Mem w0 [box rg (.cells #[.slice B n bc, .string s, .int .i64 ((a : Nat)), .int .i64 ((nextW s (a) : Nat)), .int .i64 code] 60), fr] w) :
    Calls Tryd.prog 45 #[.pointer (some ⟨rg, 0, none⟩), .string x] w fun e w' => ∃ a' ts', e = .returned (.bool (decide (hd ts = x))) ∧ RS s a' ts' ∧ ts' = (if hd ts = x then ts.tail else ts) ∧ Mem w0 [box rg (.cells #[.slice B n bc, .string s, .int .i64 ((a' : Nat)), .int .i64 ((nextW s (a') : Nat)), .int .i64 code] 60), fr] w' := by
  refine gcallsT Tryd.func45 rfl Tryd.ntmps45 (Nat.le_of_ble_eq_true rfl) hM0 ?_
  refine gfrom [(0, .pointer (some ⟨rg, 0, none⟩)), (1, .string x)] ⟨rfl, rfl, trivial⟩ fun σ => ?_
  refine gseq fun N1 hN1 => ?_
  refine greg ?_
  refine gop (y_assign (v := .bool _) rfl) rfl rfl rfl ?_
  refine gops_nil ?_
  refine hN1 _ _ ?_
  refine gfrom [(0, .pointer (some ⟨rg, 0, none⟩)), (1, .string x)] ⟨rfl, rfl, trivial⟩ fun σ => ?_
  refine gseq fun N2 hN2 => ?_
  refine greg ?_
  refine gop (y_move (v := .pointer (some ⟨rg, 0, none⟩)) rfl) rfl rfl rfl ?_
  refine gop_pure (e_call (vs := [.pointer (some ⟨rg, 0, none⟩)]) Tryd.func49 rfl (by kernel_rfl) rfl) (fun w hM => rdWord_any w rg s _ _ (next_ge _ _) (next_le hrs.le) (cell_box (w0 := w0) 0 (off := 1) rfl rfl w hM) (cell_box (w0 := w0) 0 (off := 2) rfl rfl w hM) (cell_box (w0 := w0) 0 (off := 3) rfl rfl w hM)) rfl rfl rfl ?_
  refine gop (y_move (v := .string x) rfl) rfl rfl rfl ?_
  refine gop (y_eqls rfl rfl) rfl rfl rfl ?_
  refine gop (y_assign (v := .bool _) rfl) rfl rfl rfl ?_
  refine gops_nil ?_
  refine hN2 _ _ ?_
  refine gfrom [(0, .pointer (some ⟨rg, 0, none⟩)), (5, .bool _)] ⟨rfl, rfl, trivial⟩ fun σ => ?_
  refine gseq fun N3 hN3 => ?_
  refine gseq fun N4 hN4 => ?_
  refine greg ?_
  refine gop (y_move (v := .bool _) rfl) rfl rfl rfl ?_
  refine gops_nil ?_
  refine hN4 _ _ ?_
  refine gfrom [(0, .pointer (some ⟨rg, 0, none⟩)), (5, .bool _), (10, .bool _)] ⟨rfl, rfl, rfl, trivial⟩ fun σ => ?_
  refine gcond (b := _) rfl (fun hc10 => ?_) (fun hc10 => ?_)
  · 
    rw [strEq_dec, hrs.hd] at hc10
    have hx := of_decide_eq_true hc10
    refine greg ?_
    refine gop (y_move (v := .pointer (some ⟨rg, 0, none⟩)) rfl) rfl rfl rfl ?_
    refine gop_does1 0 (fun v r G => v = .tuple #[] ∧ r = box rg (.cells #[.slice B n bc, .string s, .int .i64 ((skipW s (nextW s a) : Nat)), .int .i64 ((nextW s (skipW s (nextW s a)) : Nat)), .int .i64 code] 60) ∧ G = []) (e_call (vs := [.pointer (some ⟨rg, 0, none⟩)]) Tryd.func30 rfl (by kernel_rfl) rfl) rfl (fun w fr1 hfr hM => (rdScan_any _ w rg _ _ _ s _ fr1 hs _ _ _ rfl (next_le hrs.le) hM).mono fun _ _ ⟨h1, h2⟩ => ⟨_, _, [], h1, ⟨rfl, rfl, rfl⟩, h2⟩) rfl rfl rfl ?_
    rintro _ _ _ ⟨rfl, rfl, rfl⟩
    refine gops_nil ?_
    refine hN3 _ _ ?_
    refine gT [box rg _, fr] rfl ?_
    refine gfrom [(5, .bool _)] ⟨rfl, trivial⟩ fun σ => ?_
    refine gseq fun N5 hN5 => ?_
    refine greg ?_
    refine gop (y_move (v := .bool _) rfl) rfl rfl rfl ?_
    refine gop (y_assign (v := .bool _) rfl) rfl rfl rfl ?_
    refine gops_nil ?_
    refine hN5 _ _ ?_
    refine gfrom [(4, .bool _)] ⟨rfl, trivial⟩ fun σ => ?_
    refine gret fun w1 hM => ?_
    refine ⟨_, res1 rfl (rt (v := .bool _) rfl), ?_⟩
    rw [strEq_dec, hrs.hd]
    first
    | exact ⟨_, _, rfl, hrs.next, by rw [if_pos hx], weak_take (T' := [_, fr]) rfl _ hM⟩
    | exact ⟨_, _, rfl, hrs, by rw [if_neg hx], weak_take (T' := [_, fr]) rfl _ hM⟩
  · 
    rw [strEq_dec, hrs.hd] at hc10
    have hx := of_decide_eq_false hc10
    refine gskip ?_
    refine hN3 _ _ ?_
    refine gfrom [(5, .bool _)] ⟨rfl, trivial⟩ fun σ => ?_
    refine gseq fun N6 hN6 => ?_
    refine greg ?_
    refine gop (y_move (v := .bool _) rfl) rfl rfl rfl ?_
    refine gop (y_assign (v := .bool _) rfl) rfl rfl rfl ?_
    refine gops_nil ?_
    refine hN6 _ _ ?_
    refine gfrom [(4, .bool _)] ⟨rfl, trivial⟩ fun σ => ?_
    refine gret fun w1 hM => ?_
    refine ⟨_, res1 rfl (rt (v := .bool _) rfl), ?_⟩
    rw [strEq_dec, hrs.hd]
    first
    | exact ⟨_, _, rfl, hrs.next, by rw [if_pos hx], weak_take (T' := [_, fr]) rfl _ hM⟩
    | exact ⟨_, _, rfl, hrs, by rw [if_neg hx], weak_take (T' := [_, fr]) rfl _ hM⟩
set_option maxHeartbeats 4000000 in
theorem rdFail_any (w0 w : World) (rg n bc : Nat) (B : Option Addr) (s : ByteArray) (code a x : Int) (fr : Reg) (c : Int) (hM0 : Mem w0 [box rg (.cells #[.slice B n bc, .string s, .int .i64 (a), .int .i64 (x), .int .i64 code] 60), fr] w) :
    Calls Tryd.prog 32 #[.pointer (some ⟨rg, 0, none⟩), .int .i64 c] w fun e w' => e = .returned (.tuple #[.int .i64 0, .bool false]) ∧ Mem w0 [box rg (.cells #[.slice B n bc, .string s, .int .i64 (a), .int .i64 (x), .int .i64 c] 60), fr] w' := by
  refine gcallsT Tryd.func32 rfl Tryd.ntmps32 (Nat.le_of_ble_eq_true rfl) hM0 ?_
  refine gfrom [(0, .pointer (some ⟨rg, 0, none⟩)), (1, .int _ _)] ⟨rfl, rfl, trivial⟩ fun σ => ?_
  refine gseq fun N1 hN1 => ?_
  refine greg ?_
  refine gop (y_assign (v := .int _ _) rfl) rfl rfl rfl ?_
  refine gop (y_assign (v := .bool _) rfl) rfl rfl rfl ?_
  refine gops_nil ?_
  refine hN1 _ _ ?_
  refine gfrom [(0, .pointer (some ⟨rg, 0, none⟩)), (1, .int _ _)] ⟨rfl, rfl, trivial⟩ fun σ => ?_
  refine gseq fun N2 hN2 => ?_
  refine greg ?_
  refine gop (y_move (v := .pointer (some ⟨rg, 0, none⟩)) rfl) rfl rfl rfl ?_
  refine gop (y_move (v := .int _ _) rfl) rfl rfl rfl ?_
  refine gop (y_nilCheck rfl) rfl rfl rfl ?_
  refine gop (y_fieldAddr_box fa60_4 rfl) rfl rfl rfl ?_
  refine gop_store 0 (v := .int _ _) (cs' := #[_, _, _, _, _]) rfl rfl Tryd.sizeOf3 rfl rfl rfl rfl (Nat.le_of_ble_eq_true rfl) rfl rfl ?_
  refine gops_nil ?_
  refine hN2 _ _ ?_
  refine gT [box rg _, fr] rfl ?_
  refine gfrom [] trivial fun σ => ?_
  refine gseq fun N3 hN3 => ?_
  refine greg ?_
  refine gop (y_assign (v := .int _ _) rfl) rfl rfl rfl ?_
  refine gop (y_assign (v := .bool _) rfl) rfl rfl rfl ?_
  refine gops_nil ?_
  refine hN3 _ _ ?_
  refine gfrom [(4, .int _ _), (5, .bool _)] ⟨rfl, rfl, trivial⟩ fun σ => ?_
  refine gret fun w1 hM => ?_
  refine ⟨_, res2 rfl (rt (v := .int _ _) rfl) (rt (v := .bool _) rfl), ?_⟩
  exact ⟨rfl, weak_take (T' := [_, fr]) rfl _ hM⟩
set_option maxHeartbeats 4000000 in
theorem polAdd5_any (w0 w : World) (rg bc : Nat) (B : Option Addr) (s : ByteArray) (code a x : Int) (o : List PN) (fr : Reg) (hM0 : Mem w0 [box rg (.cells #[.slice B o.length bc, .string s, .int .i64 (a), .int .i64 (x), .int .i64 code] 60), rowl pnCells w0.heap.size 47 4 (.slice B (o).length bc) (o), fr] w) (hol : o.length ≤ 1000) (n : PN) :
    Calls Tryd.prog 41 #[.pointer (some ⟨rg, 0, none⟩), pnV n] w fun e w' => ∃ B' bc', e = .returned (.int .i64 (o.length : Nat)) ∧ Mem w0 [box rg (.cells #[.slice B' (o ++ [n]).length bc', .string s, .int .i64 (a), .int .i64 (x), .int .i64 code] 60), rowl pnCells w0.heap.size 47 4 (.slice B' (o ++ [n]).length bc') (o ++ [n]), fr] w' := by
  refine gcallsT Tryd.func41 rfl Tryd.ntmps41 (Nat.le_of_ble_eq_true rfl) hM0 ?_
  refine gfrom [(0, .pointer (some ⟨rg, 0, none⟩)), (1, .agg #[_, _, _, _])] ⟨rfl, rfl, trivial⟩ fun σ => ?_
  refine gseq fun N1 hN1 => ?_
  refine greg ?_
  refine gop_box (v := .agg #[_, _, _, _]) (cs := #[_, _, _, _]) rfl rfl rfl (fun b3 hb3 => ?_)
  refine gop (y_assign (v := .int _ _) rfl) rfl rfl rfl ?_
  refine gops_nil ?_
  refine hN1 _ _ ?_
  refine gT [box rg _, rowl _ _ _ _ _ _, fr, box b3 _] rfl ?_
  refine gfrom [(0, .pointer (some ⟨rg, 0, none⟩)), (3, .pointer _)] ⟨rfl, rfl, trivial⟩ fun σ => ?_
  refine gseq fun N2 hN2 => ?_
  refine greg_e1 [10] [(1, emp)] (by kernel_rfl) ?_
  refine ge_take 0 (TK := [box rg _, emp, fr, box b3 _]) rfl (by kernel_rfl) (by kernel_rfl) (by kernel_rfl) #[false, true, true, true, true, true, true, true, false, false, false] (by kernel_rfl) rfl (y_move (v := .pointer (some ⟨rg, 0, none⟩)) rfl) rfl rfl rfl (weak_emp 1 rfl) (listed' := #[true, false, false, false, false, false, false, false, false, false, false]) rfl ?_
  refine ge_take 1 (TK := [box rg _, emp, fr, box b3 _]) rfl (by kernel_rfl) (by kernel_rfl) (by kernel_rfl) #[true, false, false, false, false, true, true, false, false, false, false] (by kernel_rfl) rfl (y_move (v := .pointer (some ⟨rg, 0, none⟩)) rfl) rfl rfl rfl (weak_emp 1 rfl) (listed' := #[true, true, false, false, false, false, false, false, false, false, false]) rfl ?_
  refine ge_take 2 (TK := [box rg _, emp, fr, box b3 _]) rfl (by kernel_rfl) (by kernel_rfl) (by kernel_rfl) #[true, true, false, false, false, true, true, false, false, false, false] (by kernel_rfl) rfl (y_nilCheck rfl) rfl rfl rfl (weak_emp 1 rfl) (listed' := #[true, true, true, false, false, false, false, false, false, false, false]) rfl ?_
  refine ge_take 3 (TK := [box rg _, emp, fr, box b3 _]) rfl (by kernel_rfl) (by kernel_rfl) (by kernel_rfl) #[true, true, true, false, false, true, true, false, false, false, false] (by kernel_rfl) rfl (y_fieldAddr_box fa52_0 rfl) rfl rfl rfl (weak_emp 1 rfl) (listed' := #[true, true, true, true, false, false, false, false, false, false, false]) rfl ?_
  refine ge_take 4 (TK := [box rg _, emp, fr, box b3 _]) rfl (by kernel_rfl) (by kernel_rfl) (by kernel_rfl) #[true, true, true, true, false, true, true, false, false, false, false] (by kernel_rfl) rfl (y_load Tryd.isAgg22 rfl (cell_box 0 rfl rfl)) rfl rfl rfl (weak_emp 1 rfl) (listed' := #[true, true, true, true, true, false, false, false, false, false, false]) rfl ?_
  refine ge_take 5 (TK := [box rg _, emp, fr, box b3 _]) rfl (by kernel_rfl) (by kernel_rfl) (by kernel_rfl) #[true, true, true, true, true, false, false, false, false, false, false] (by kernel_rfl) rfl (y_loads (cs := [_, _, _, _]) Tryd.isAgg47 Tryd.sizeOf47 rfl rfl (cells_box 3 rfl)) rfl rfl rfl (weak_emp 1 rfl) (listed' := #[true, true, true, true, true, true, false, false, false, false, false]) rfl ?_
  refine ge_one 6 (k' := 0) (listed' := #[true, true, true, true, true, true, true, false, false, false, false]) (by kernel_rfl) rfl rfl rfl ?_
  refine gop_lit (vs := [.agg #[_, _, _, _]]) (cells := #[_, _, _, _]) Tryd.underlying22 Tryd.sizeOf47 Tryd.zeroValue47 rfl (by decide) (by decide) rfl rfl rfl rfl (fun b11 hb11 => ?_)
  refine gops_nil ?_
  refine ge_fin (TK := [box rg _, emp, fr, box b3 _]) rfl (weak_trans (weak_take (T' := [box rg _, rowl _ _ _ _ _ _, fr, box b3 _]) rfl) (weak_emp 1 rfl)) ?_
  refine ge_one 7 (k' := 0) (listed' := #[true, true, true, true, true, true, true, true, false, false, false]) (by kernel_rfl) rfl rfl rfl ?_
  refine gop_append 1 (f := pnCells) (l2 := [n]) Tryd.underlying22 el47 wide_pn (v := .slice _ _ _) rfl rfl rfl rfl (fun h => by cases h) (by simp [maxLen]; omega) (by simp; omega) (src_box 4 rfl rfl) rfl (fun v12 => ?_)
  refine gops_fact (fun w hM => own_form (hM.own 1 rfl)) ?_
  rintro ⟨A12, c12, rfl, hc12, hm12⟩
  refine gops_nil ?_
  refine ge_fin (TK := [box rg _, emp, fr, box b3 _]) rfl (weak_trans (weak_take (T' := [box rg _, rowl _ _ _ _ _ _, fr, box b3 _]) rfl) (weak_emp 1 rfl)) ?_
  refine ge_take 8 (TK := [box rg _, emp, fr, box b3 _]) rfl (by kernel_rfl) (by kernel_rfl) (by kernel_rfl) #[true, true, true, true, true, true, true, true, false, false, false] (by kernel_rfl) rfl (y_nilCheck rfl) rfl rfl rfl (weak_trans (weak_take (T' := [box rg _, rowl _ _ _ _ _ _, fr, box b3 _]) rfl) (weak_emp 1 rfl)) (listed' := #[true, true, true, true, true, true, true, true, true, false, false]) rfl ?_
  refine ge_take 9 (TK := [box rg _, emp, fr, box b3 _]) rfl (by kernel_rfl) (by kernel_rfl) (by kernel_rfl) #[true, true, true, true, true, true, true, true, true, false, false] (by kernel_rfl) rfl (y_fieldAddr_box fa52_0 rfl) rfl rfl rfl (weak_trans (weak_take (T' := [box rg _, rowl _ _ _ _ _ _, fr, box b3 _]) rfl) (weak_emp 1 rfl)) (listed' := #[true, true, true, true, true, true, true, true, true, true, false]) rfl ?_
  refine ge_one 10 (k' := 1) (listed' := #[true, true, true, true, true, true, true, true, true, true, true]) (by kernel_rfl) rfl rfl rfl ?_
  refine gop_store 0 (v := .slice A12 _ c12) (cs' := #[_, _, _, _, _]) rfl rfl Tryd.sizeOf22 rfl rfl rfl rfl (Nat.le_of_ble_eq_true rfl) rfl rfl ?_
  refine gops_nil ?_
  refine ge_fin (TK := []) rfl (weak_nil) ?_
  refine ge_done (by kernel_rfl) ?_
  refine hN2 _ _ ?_
  refine gT [box rg _, rowl _ _ _ _ _ _, fr, box b3 _, box b11 _] rfl ?_
  refine gfrom [(0, .pointer (some ⟨rg, 0, none⟩))] ⟨rfl, trivial⟩ fun σ => ?_
  refine gseq fun N3 hN3 => ?_
  refine greg ?_
  refine gop (y_move (v := .pointer (some ⟨rg, 0, none⟩)) rfl) rfl rfl rfl ?_
  refine gop (y_nilCheck rfl) rfl rfl rfl ?_
  refine gop (y_fieldAddr_box fa52_0 rfl) rfl rfl rfl ?_
  refine gop (y_load Tryd.isAgg22 rfl (cell_box 0 rfl rfl)) rfl rfl rfl ?_
  refine gop (y_len Tryd.underlying22 rfl) rfl rfl rfl ?_
  refine gop (y_sub rfl rfl ⟨by first | omega | (simp; done) | (simp; omega), by first | omega | (simp; done) | (simp; omega)⟩) rfl rfl rfl ?_
  refine gop (y_assign (v := .int _ _) rfl) rfl rfl rfl ?_
  refine gops_nil ?_
  refine hN3 _ _ ?_
  refine gfrom [(4, .int _ _)] ⟨rfl, trivial⟩ fun σ => ?_
  refine gret fun w1 hM => ?_
  refine ⟨_, res1 rfl (rt (v := .int _ _) rfl), ?_⟩
  exact ⟨A12, c12, by simp, weak_take (T' := [_, _, fr]) rfl _ hM⟩
end Go.Proofs.YtllblbkbglifjaaDoor
namespace Go.Proofs.YtllblbkbglifjaaDoor
open Go.RowKit Go.Cf
set_option maxRecDepth 10000
theorem fa60_0 (a : Addr) (w : World) : (Instr.fieldAt 60 (.pointer (some a)) 0).run Tryd.prog w = .ok (.pointer (some (a.add 0))) w := by kernel_rfl
theorem bd47_0_1 (x1 : Int) (x2 : Int) : Tryd.prog.built 47 [(0, .int .i64 x1), (1, .int .i64 x2)] = some #[.int .i64 x1, .int .i64 x2, .int .i64 0, .int .i64 0] := by kernel_rfl
set_option maxHeartbeats 8000000 in
theorem rdNumber_any (w0 w : World) (rg bc : Nat) (B : Option Addr) (s : ByteArray) (code : Int) (o : List PN) (fr : Reg) (hs : s.size ≤ 200) (a : Nat) (ts : List Tk) (hrs : RS s a ts) (kd : Int) (hol : o.length ≤ 900) (hL : LaidP w0) (hM0 : Mem w0 [box rg (.cells #[.slice B o.length bc, .string s, .int .i64 ((a : Nat)), .int .i64 ((nextW s (a) : Nat)), .int .i64 code] 60), rowl pnCells w0.heap.size 47 4 (.slice B (o).length bc) (o), fr] w) :
    Calls Tryd.prog 48 #[.pointer (some ⟨rg, 0, none⟩), .int .i64 kd] w fun e w' => ∃ x b B' bc' o' a' code', e = .returned (.tuple #[.int .i64 x, .bool b]) ∧ POK s (numR s.size kd ts) o code x b o' a' code' ∧ Mem w0 [box rg (.cells #[.slice B' o'.length bc', .string s, .int .i64 ((a' : Nat)), .int .i64 ((nextW s (a') : Nat)), .int .i64 code'] 60), rowl pnCells w0.heap.size 47 4 (.slice B' (o').length bc') (o'), fr] w' := by
  have hhd : (hd ts).size ≤ 200 := by rw [← hrs.hd, ByteArray.size_extract]; omega
  refine gcallsT Tryd.func48 rfl Tryd.ntmps48 (Nat.le_of_ble_eq_true rfl) hM0 ?_
  refine gfrom [(0, .pointer (some ⟨rg, 0, none⟩)), (1, .int _ _)] ⟨rfl, rfl, trivial⟩ fun σ => ?_
  refine gseq fun N1 hN1 => ?_
  refine greg ?_
  refine gop (y_assign (v := .int _ _) rfl) rfl rfl rfl ?_
  refine gop (y_assign (v := .bool _) rfl) rfl rfl rfl ?_
  refine gops_nil ?_
  refine hN1 _ _ ?_
  refine gfrom [(0, .pointer (some ⟨rg, 0, none⟩)), (1, .int _ _)] ⟨rfl, rfl, trivial⟩ fun σ => ?_
  refine gseq fun N2 hN2 => ?_
  refine greg ?_
  refine gop (y_move (v := .pointer (some ⟨rg, 0, none⟩)) rfl) rfl rfl rfl ?_
  refine gop_pure (e_call (vs := [.pointer (some ⟨rg, 0, none⟩)]) Tryd.func49 rfl (by kernel_rfl) rfl) (fun w hM => (by have h9 := rdWord_any w rg s _ _ (next_ge _ _) (next_le hrs.le) (cell_box (w0 := w0) 0 (off := 1) rfl rfl w hM) (cell_box (w0 := w0) 0 (off := 2) rfl rfl w hM) (cell_box (w0 := w0) 0 (off := 3) rfl rfl w hM); rw [hrs.hd] at h9; exact h9)) rfl rfl rfl ?_
  refine gop (y_assign (v := .string _) rfl) rfl rfl rfl ?_
  refine gops_nil ?_
  refine hN2 _ _ ?_
  refine gfrom [(0, .pointer (some ⟨rg, 0, none⟩)), (1, .int _ _), (6, .string _)] ⟨rfl, rfl, rfl, trivial⟩ fun σ => ?_
  refine gseq fun N3 hN3 => ?_
  refine greg ?_
  refine gop (y_move (v := .string _) rfl) rfl rfl rfl ?_
  refine gop_got (fun v T' => ∃ n er b, v = .tuple #[.int .i64 n, er] ∧ AtoiEnd (hd ts) n er b ∧ T' = []) (e_call (vs := [.string _]) Tryd.func52 rfl (by kernel_rfl) rfl) (fun w hM => (atoi_any w (hd ts) (by omega) (hL.base hM)).mono fun _ _ ⟨n, er, b, h1, h2, h3⟩ => ⟨_, [], h1, ⟨n, er, b, rfl, h2, rfl⟩, mem_nil h3⟩) rfl rfl rfl ?_
  rintro _ _ ⟨n, er, b, rfl, hAE, rfl⟩
  refine gop (y_move (v := .tuple #[.int _ _, er]) rfl) rfl rfl rfl ?_
  refine gop (y_extract (v := .int _ _) rfl rfl) rfl rfl rfl ?_
  refine gop (y_extract (v := _) rfl rfl) rfl rfl rfl ?_
  refine gop (y_assign (v := .int _ _) rfl) rfl rfl rfl ?_
  refine gop (y_assign (v := _) rfl) rfl rfl rfl ?_
  refine gops_nil ?_
  refine hN3 _ _ ?_
  refine gfrom [(0, .pointer (some ⟨rg, 0, none⟩)), (1, .int _ _), (6, .string _), (7, .int _ _), (8, _)] ⟨rfl, rfl, rfl, rfl, rfl, trivial⟩ fun σ => ?_
  refine gseq fun N4 hN4 => ?_
  refine gseq fun N5 hN5 => ?_
  refine greg ?_
  refine gop (y_move (v := _) rfl) rfl rfl rfl ?_
  refine gop (y_errne (by kernel_rfl) hAE rfl rfl) rfl rfl rfl ?_
  refine gop (y_move (v := .bool _) rfl) rfl rfl rfl ?_
  refine gop_if (want := false) rfl rfl rfl rfl rfl rfl (fun hg18 => ?_) (fun hg18 => ?_)
  · 
    have hg18d := hg18
    refine gop (y_bare (y_move (v := .int _ _) rfl)) rfl rfl rfl ?_
    refine gop_on rfl rfl rfl rfl hg18 ?_
    refine gop_pure (e_call (vs := [.int _ _]) Tryd.func40 rfl (by kernel_rfl) rfl) (fun w hM => itoa_any w n (Lib.atoiAll_bounds (hAE.ok (by assumption))).1 (Lib.atoiAll_bounds (hAE.ok (by assumption))).2 (hL.base hM)) rfl rfl rfl ?_
    refine gop_on rfl rfl rfl rfl hg18 ?_
    refine gop (y_bare (y_move (v := .string _) rfl)) rfl rfl rfl ?_
    refine gop_on rfl rfl rfl rfl hg18 ?_
    refine gop (y_bare (y_neqs rfl rfl)) rfl rfl rfl ?_
    refine gop (y_pick_f (v := .bool _) rfl hg18 rfl) rfl rfl rfl ?_
    refine gops_nil ?_
    refine hN5 _ _ ?_
    refine gfrom [(0, .pointer (some ⟨rg, 0, none⟩)), (1, .int _ _), (7, .int _ _), (23, .bool _)] ⟨rfl, rfl, rfl, rfl, trivial⟩ fun σ => ?_
    refine gcond (b := _) rfl (fun hc23 => ?_) (fun hc23 => ?_)
    · 
      have hV : numV (hd ts) = none := by first | exact num_bad hAE (.inl (by assumption)) | exact num_bad hAE (.inr (fun h9 => by rw [h9] at hc23; simp at hc23))
      have hR : numR s.size kd ts = .bad 1 a := by
        rw [numR, hV]
        show Res.bad 1 (pos s.size ts) = _
        rw [hrs.pos]
      refine gseq fun N6 hN6 => ?_
      refine greg ?_
      refine gop (y_move (v := .pointer (some ⟨rg, 0, none⟩)) rfl) rfl rfl rfl ?_
      refine gop_does1 0 (fun v r G => v = .tuple #[.int .i64 0, .bool false] ∧ r = box rg (.cells #[.slice B o.length bc, .string s, .int .i64 ((a : Nat)), .int .i64 ((nextW s (a) : Nat)), .int .i64 1] 60) ∧ G = []) (e_call (vs := [.pointer (some ⟨rg, 0, none⟩), _]) Tryd.func32 rfl (by kernel_rfl) rfl) rfl (fun w fr1 hfr hM => (rdFail_any _ w rg _ _ _ s _ _ _ fr1 1 hM).mono fun _ _ ⟨h1, h2⟩ => ⟨_, _, [], h1, ⟨rfl, rfl, rfl⟩, h2⟩) rfl rfl rfl ?_
      rintro _ _ _ ⟨rfl, rfl, rfl⟩
      refine gop (y_extract (v := .int _ _) rfl rfl) rfl rfl rfl ?_
      refine gop (y_extract (v := .bool _) rfl rfl) rfl rfl rfl ?_
      refine gop (y_assign (v := .int _ _) rfl) rfl rfl rfl ?_
      refine gop (y_assign (v := .bool _) rfl) rfl rfl rfl ?_
      refine gops_nil ?_
      refine hN6 _ _ ?_
      refine gT [box rg _, rowl _ _ _ _ _ _, fr] rfl ?_
      refine gfrom [(4, .int _ _), (5, .bool _)] ⟨rfl, rfl, trivial⟩ fun σ => ?_
      refine gret fun w1 hM => ?_
      refine ⟨_, res2 rfl (rt (v := .int _ _) rfl) (rt (v := .bool _) rfl), ?_⟩
      exact ⟨_, _, B, bc, o, _, _, rfl, pok_bad hR (by omega), weak_take (T' := [_, _, fr]) rfl _ hM⟩
    · 
      have hV : numV (hd ts) = some n := num_good hAE (by assumption) (by rw [strEq_dec] at hc23; simpa using hc23)
      refine gskip ?_
      refine hN4 _ _ ?_
      refine gfrom [(0, .pointer (some ⟨rg, 0, none⟩)), (1, .int _ _), (7, .int _ _)] ⟨rfl, rfl, rfl, trivial⟩ fun σ => ?_
      refine gseq fun N7 hN7 => ?_
      refine gseq fun N8 hN8 => ?_
      refine greg ?_
      refine gop (y_move (v := .int _ _) rfl) rfl rfl rfl ?_
      refine gop (y_lss rfl rfl) rfl rfl rfl ?_
      refine gop (y_move (v := .bool _) rfl) rfl rfl rfl ?_
      refine gop_if (want := false) rfl rfl rfl rfl rfl rfl (fun hg30 => ?_) (fun hg30 => ?_)
      · 
        have hg30d := of_decide_eq_false hg30
        refine gop (y_bare (y_move (v := .int _ _) rfl)) rfl rfl rfl ?_
        refine gop_on rfl rfl rfl rfl hg30 ?_
        refine gop (y_bare (y_move (v := .int _ _) rfl)) rfl rfl rfl ?_
        refine gop_on rfl rfl rfl rfl hg30 ?_
        refine gop_pure (e_call (vs := [.int _ _]) Tryd.func42 rfl (by kernel_rfl) rfl) (fun w hM => polMost_any w _) rfl rfl rfl ?_
        refine gop_on rfl rfl rfl rfl hg30 ?_
        refine gop (y_bare (y_gtr rfl rfl)) rfl rfl rfl ?_
        refine gop (y_pick_f (v := .bool _) rfl hg30 rfl) rfl rfl rfl ?_
        refine gops_nil ?_
        refine hN8 _ _ ?_
        refine gfrom [(0, .pointer (some ⟨rg, 0, none⟩)), (1, .int _ _), (7, .int _ _), (35, .bool _)] ⟨rfl, rfl, rfl, rfl, trivial⟩ fun σ => ?_
        refine gcond (b := _) rfl (fun hc35 => ?_) (fun hc35 => ?_)
        · 
          replace hc35 := of_decide_eq_true hc35
          have hR : numR s.size kd ts = .bad 3 a := by
            rw [numR, hV]
            show (if n < 0 ∨ mostN kd < n then Res.bad 3 (pos s.size ts) else _) = _
            rw [if_pos (by omega), hrs.pos]
          refine gseq fun N9 hN9 => ?_
          refine greg ?_
          refine gop (y_move (v := .pointer (some ⟨rg, 0, none⟩)) rfl) rfl rfl rfl ?_
          refine gop_does1 0 (fun v r G => v = .tuple #[.int .i64 0, .bool false] ∧ r = box rg (.cells #[.slice B o.length bc, .string s, .int .i64 ((a : Nat)), .int .i64 ((nextW s (a) : Nat)), .int .i64 3] 60) ∧ G = []) (e_call (vs := [.pointer (some ⟨rg, 0, none⟩), _]) Tryd.func32 rfl (by kernel_rfl) rfl) rfl (fun w fr1 hfr hM => (rdFail_any _ w rg _ _ _ s _ _ _ fr1 3 hM).mono fun _ _ ⟨h1, h2⟩ => ⟨_, _, [], h1, ⟨rfl, rfl, rfl⟩, h2⟩) rfl rfl rfl ?_
          rintro _ _ _ ⟨rfl, rfl, rfl⟩
          refine gop (y_extract (v := .int _ _) rfl rfl) rfl rfl rfl ?_
          refine gop (y_extract (v := .bool _) rfl rfl) rfl rfl rfl ?_
          refine gop (y_assign (v := .int _ _) rfl) rfl rfl rfl ?_
          refine gop (y_assign (v := .bool _) rfl) rfl rfl rfl ?_
          refine gops_nil ?_
          refine hN9 _ _ ?_
          refine gT [box rg _, rowl _ _ _ _ _ _, fr] rfl ?_
          refine gfrom [(4, .int _ _), (5, .bool _)] ⟨rfl, rfl, trivial⟩ fun σ => ?_
          refine gret fun w1 hM => ?_
          refine ⟨_, res2 rfl (rt (v := .int _ _) rfl) (rt (v := .bool _) rfl), ?_⟩
          exact ⟨_, _, B, bc, o, _, _, rfl, pok_bad hR (by omega), weak_take (T' := [_, _, fr]) rfl _ hM⟩
        · 
          replace hc35 := of_decide_eq_false hc35
          have hR : numR s.size kd ts = .ok (.leaf kd n) ts.tail := by
            rw [numR, hV]
            show (if n < 0 ∨ mostN kd < n then Res.bad 3 (pos s.size ts) else _) = _
            rw [if_neg (by omega)]
          refine gskip ?_
          refine hN7 _ _ ?_
          refine gfrom [(0, .pointer (some ⟨rg, 0, none⟩)), (1, .int _ _), (7, .int _ _)] ⟨rfl, rfl, rfl, trivial⟩ fun σ => ?_
          refine gseq fun N10 hN10 => ?_
          refine greg ?_
          refine gop (y_move (v := .pointer (some ⟨rg, 0, none⟩)) rfl) rfl rfl rfl ?_
          refine gop_does1 0 (fun v r G => v = .tuple #[] ∧ r = box rg (.cells #[.slice B o.length bc, .string s, .int .i64 ((skipW s (nextW s a) : Nat)), .int .i64 ((nextW s (skipW s (nextW s a)) : Nat)), .int .i64 code] 60) ∧ G = []) (e_call (vs := [.pointer (some ⟨rg, 0, none⟩)]) Tryd.func30 rfl (by kernel_rfl) rfl) rfl (fun w fr1 hfr hM => (rdScan_any _ w rg _ _ _ s _ fr1 hs _ _ _ rfl (next_le hrs.le) hM).mono fun _ _ ⟨h1, h2⟩ => ⟨_, _, [], h1, ⟨rfl, rfl, rfl⟩, h2⟩) rfl rfl rfl ?_
          rintro _ _ _ ⟨rfl, rfl, rfl⟩
          refine gops_nil ?_
          refine hN10 _ _ ?_
          refine gT [box rg _, rowl _ _ _ _ _ _, fr] rfl ?_
          refine gfrom [(0, .pointer (some ⟨rg, 0, none⟩)), (1, .int _ _), (7, .int _ _)] ⟨rfl, rfl, rfl, trivial⟩ fun σ => ?_
          refine gseq fun N11 hN11 => ?_
          refine greg ?_
          refine gop (y_move (v := .pointer (some ⟨rg, 0, none⟩)) rfl) rfl rfl rfl ?_
          refine gop (y_nilCheck rfl) rfl rfl rfl ?_
          refine gop (y_fieldAddr_box fa60_0 rfl) rfl rfl rfl ?_
          refine gop (y_move (v := .int _ _) rfl) rfl rfl rfl ?_
          refine gop (y_move (v := .int _ _) rfl) rfl rfl rfl ?_
          refine gop (y_build (vs := [(0, .int _ _), (1, .int _ _)]) (cells := #[_, _, .int .i64 0, .int .i64 0]) rfl (bd47_0_1 _ _)) rfl rfl rfl ?_
          refine gop_does2 0 1 (fun v r s1 G => ∃ B' bc', v = .int .i64 ((o).length : Nat) ∧ r = box rg (.cells #[.slice B' (o ++ [(⟨kd, n, 0, 0⟩ : PN)]).length bc', .string s, .int .i64 ((skipW s (nextW s a) : Nat)), .int .i64 ((nextW s (skipW s (nextW s a)) : Nat)), .int .i64 code] 60) ∧ s1 = rowl pnCells w0.heap.size 47 4 (.slice B' (o ++ [(⟨kd, n, 0, 0⟩ : PN)]).length bc') (o ++ [(⟨kd, n, 0, 0⟩ : PN)]) ∧ G = []) (e_call (vs := [.pointer _, .agg #[_, _, _, _]]) Tryd.func41 rfl (by kernel_rfl) rfl) rfl rfl rfl (fun w fr1 hfr hM => (polAdd5_any _ w rg _ _ s _ _ _ (o) fr1 hM (by omega) ((⟨kd, n, 0, 0⟩ : PN))).mono fun _ _ ⟨B', bc', h1, h2⟩ => ⟨_, _, _, [], h1, ⟨B', bc', rfl, rfl, rfl, rfl⟩, h2⟩) rfl rfl rfl ?_
          rintro _ _ _ _ ⟨B48, bc48, rfl, rfl, rfl, rfl⟩
          refine gop (y_assign (v := .int _ _) rfl) rfl rfl rfl ?_
          refine gop (y_assign (v := .bool _) rfl) rfl rfl rfl ?_
          refine gops_nil ?_
          refine hN11 _ _ ?_
          refine gT [box rg _, rowl _ _ _ _ _ _, fr] rfl ?_
          refine gfrom [(4, .int _ _), (5, .bool _)] ⟨rfl, rfl, trivial⟩ fun σ => ?_
          refine gret fun w1 hM => ?_
          refine ⟨_, res2 rfl (rt (v := .int _ _) rfl) (rt (v := .bool _) rfl), ?_⟩
          exact ⟨_, _, B48, bc48, _, _, _, rfl, pok_ok hR (by simp only [Tr.size]; omega) rfl hrs.next, weak_take (T' := [_, _, fr]) rfl _ hM⟩
      · 
        have hg30d := of_decide_eq_true hg30
        refine gop_off rfl rfl rfl rfl hg30 rfl rfl ?_
        refine gop_off rfl rfl rfl rfl hg30 rfl rfl ?_
        refine gop_off rfl rfl rfl rfl hg30 rfl rfl ?_
        refine gop (y_pick_t (v := .bool _) rfl hg30 rfl) rfl rfl rfl ?_
        refine gops_nil ?_
        refine hN8 _ _ ?_
        refine gfrom [(0, .pointer (some ⟨rg, 0, none⟩)), (1, .int _ _), (7, .int _ _), (35, .bool _)] ⟨rfl, rfl, rfl, rfl, trivial⟩ fun σ => ?_
        refine gcond (b := _) rfl (fun hc35 => ?_) (fun hc35 => ?_)
        · 
          have hR : numR s.size kd ts = .bad 3 a := by
            rw [numR, hV]
            show (if n < 0 ∨ mostN kd < n then Res.bad 3 (pos s.size ts) else _) = _
            rw [if_pos (by omega), hrs.pos]
          refine gseq fun N12 hN12 => ?_
          refine greg ?_
          refine gop (y_move (v := .pointer (some ⟨rg, 0, none⟩)) rfl) rfl rfl rfl ?_
          refine gop_does1 0 (fun v r G => v = .tuple #[.int .i64 0, .bool false] ∧ r = box rg (.cells #[.slice B o.length bc, .string s, .int .i64 ((a : Nat)), .int .i64 ((nextW s (a) : Nat)), .int .i64 3] 60) ∧ G = []) (e_call (vs := [.pointer (some ⟨rg, 0, none⟩), _]) Tryd.func32 rfl (by kernel_rfl) rfl) rfl (fun w fr1 hfr hM => (rdFail_any _ w rg _ _ _ s _ _ _ fr1 3 hM).mono fun _ _ ⟨h1, h2⟩ => ⟨_, _, [], h1, ⟨rfl, rfl, rfl⟩, h2⟩) rfl rfl rfl ?_
          rintro _ _ _ ⟨rfl, rfl, rfl⟩
          refine gop (y_extract (v := .int _ _) rfl rfl) rfl rfl rfl ?_
          refine gop (y_extract (v := .bool _) rfl rfl) rfl rfl rfl ?_
          refine gop (y_assign (v := .int _ _) rfl) rfl rfl rfl ?_
          refine gop (y_assign (v := .bool _) rfl) rfl rfl rfl ?_
          refine gops_nil ?_
          refine hN12 _ _ ?_
          refine gT [box rg _, rowl _ _ _ _ _ _, fr] rfl ?_
          refine gfrom [(4, .int _ _), (5, .bool _)] ⟨rfl, rfl, trivial⟩ fun σ => ?_
          refine gret fun w1 hM => ?_
          refine ⟨_, res2 rfl (rt (v := .int _ _) rfl) (rt (v := .bool _) rfl), ?_⟩
          exact ⟨_, _, B, bc, o, _, _, rfl, pok_bad hR (by omega), weak_take (T' := [_, _, fr]) rfl _ hM⟩
        · 
          cases hc35
  · 
    have hg18d := hg18
    refine gop_off rfl rfl rfl rfl hg18 rfl rfl ?_
    refine gop_off rfl rfl rfl rfl hg18 rfl rfl ?_
    refine gop_off rfl rfl rfl rfl hg18 rfl rfl ?_
    refine gop (y_pick_t (v := .bool _) rfl hg18 rfl) rfl rfl rfl ?_
    refine gops_nil ?_
    refine hN5 _ _ ?_
    refine gfrom [(0, .pointer (some ⟨rg, 0, none⟩)), (1, .int _ _), (7, .int _ _), (23, .bool _)] ⟨rfl, rfl, rfl, rfl, trivial⟩ fun σ => ?_
    refine gcond (b := _) rfl (fun hc23 => ?_) (fun hc23 => ?_)
    · 
      have hV : numV (hd ts) = none := by first | exact num_bad hAE (.inl (by assumption)) | exact num_bad hAE (.inr (fun h9 => by rw [h9] at hc23; simp at hc23))
      have hR : numR s.size kd ts = .bad 1 a := by
        rw [numR, hV]
        show Res.bad 1 (pos s.size ts) = _
        rw [hrs.pos]
      refine gseq fun N13 hN13 => ?_
      refine greg ?_
      refine gop (y_move (v := .pointer (some ⟨rg, 0, none⟩)) rfl) rfl rfl rfl ?_
      refine gop_does1 0 (fun v r G => v = .tuple #[.int .i64 0, .bool false] ∧ r = box rg (.cells #[.slice B o.length bc, .string s, .int .i64 ((a : Nat)), .int .i64 ((nextW s (a) : Nat)), .int .i64 1] 60) ∧ G = []) (e_call (vs := [.pointer (some ⟨rg, 0, none⟩), _]) Tryd.func32 rfl (by kernel_rfl) rfl) rfl (fun w fr1 hfr hM => (rdFail_any _ w rg _ _ _ s _ _ _ fr1 1 hM).mono fun _ _ ⟨h1, h2⟩ => ⟨_, _, [], h1, ⟨rfl, rfl, rfl⟩, h2⟩) rfl rfl rfl ?_
      rintro _ _ _ ⟨rfl, rfl, rfl⟩
      refine gop (y_extract (v := .int _ _) rfl rfl) rfl rfl rfl ?_
      refine gop (y_extract (v := .bool _) rfl rfl) rfl rfl rfl ?_
      refine gop (y_assign (v := .int _ _) rfl) rfl rfl rfl ?_
      refine gop (y_assign (v := .bool _) rfl) rfl rfl rfl ?_
      refine gops_nil ?_
      refine hN13 _ _ ?_
      refine gT [box rg _, rowl _ _ _ _ _ _, fr] rfl ?_
      refine gfrom [(4, .int _ _), (5, .bool _)] ⟨rfl, rfl, trivial⟩ fun σ => ?_
      refine gret fun w1 hM => ?_
      refine ⟨_, res2 rfl (rt (v := .int _ _) rfl) (rt (v := .bool _) rfl), ?_⟩
      exact ⟨_, _, B, bc, o, _, _, rfl, pok_bad hR (by omega), weak_take (T' := [_, _, fr]) rfl _ hM⟩
    · 
      cases hc23
end Go.Proofs.YtllblbkbglifjaaDoor
namespace Go.Proofs.YtllblbkbglifjaaDoor
open Go.RowKit Go.Cf
def ListH (w0 : World) (s : ByteArray) (rg n : Nat) : Prop := ∀ (lv : Nat) (vi : Int) (w : World) (B : Option Addr) (bc : Nat) (code : Int) (o : List PN) (fr : Reg) (a : Nat) (ts : List Tk), lv ≤ 2 → vi = (lv : Int) → 3 * ts.length + 3 ≤ n + lv → RS s a ts → o.length + ts.length ≤ 800 → Mem w0 [box rg (.cells #[.slice B o.length bc, .string s, .int .i64 ((a : Nat)), .int .i64 ((nextW s (a) : Nat)), .int .i64 code] 60), rowl pnCells w0.heap.size 47 4 (.slice B (o).length bc) (o), fr] w →
    Calls Tryd.prog 31 #[.pointer (some ⟨rg, 0, none⟩), .int .i64 vi] w fun e w' => ∃ x b B' bc' o' a' code', e = .returned (.tuple #[.int .i64 x, .bool b]) ∧ POK s (rd s.size n lv none ts) o code x b o' a' code' ∧ Mem w0 [box rg (.cells #[.slice B' o'.length bc', .string s, .int .i64 ((a' : Nat)), .int .i64 ((nextW s (a') : Nat)), .int .i64 code'] 60), rowl pnCells w0.heap.size 47 4 (.slice B' (o').length bc') (o'), fr] w'
def FacH (w0 : World) (s : ByteArray) (rg n : Nat) : Prop := ∀ (w : World) (B : Option Addr) (bc : Nat) (code : Int) (o : List PN) (fr : Reg) (a : Nat) (ts : List Tk), 3 * ts.length + 1 ≤ n → RS s a ts → o.length + ts.length ≤ 800 → Mem w0 [box rg (.cells #[.slice B o.length bc, .string s, .int .i64 ((a : Nat)), .int .i64 ((nextW s (a) : Nat)), .int .i64 code] 60), rowl pnCells w0.heap.size 47 4 (.slice B (o).length bc) (o), fr] w →
    Calls Tryd.prog 44 #[.pointer (some ⟨rg, 0, none⟩)] w fun e w' => ∃ x b B' bc' o' a' code', e = .returned (.tuple #[.int .i64 x, .bool b]) ∧ POK s (rd s.size n 2 none ts) o code x b o' a' code' ∧ Mem w0 [box rg (.cells #[.slice B' o'.length bc', .string s, .int .i64 ((a' : Nat)), .int .i64 ((nextW s (a') : Nat)), .int .i64 code'] 60), rowl pnCells w0.heap.size 47 4 (.slice B' (o').length bc') (o'), fr] w'
end Go.Proofs.YtllblbkbglifjaaDoor
namespace Go.Proofs.YtllblbkbglifjaaDoor
open Go.RowKit Go.Cf
set_option maxRecDepth 10000
theorem bd47_0 (x1 : Int) : Tryd.prog.built 47 [(0, .int .i64 x1)] = some #[.int .i64 x1, .int .i64 0, .int .i64 0, .int .i64 0] := by kernel_rfl
set_option maxHeartbeats 16000000 in
theorem rdFactor_step (w0 : World) (s : ByteArray) (hs : s.size ≤ 200) (hL : LaidP w0) (rg n : Nat) (hF : FacH w0 s rg n) (hLi : ListH w0 s rg n) : FacH w0 s rg (n + 1) := by
  intro w B bc code o fr a ts hfu hrs hol hM0
  have hrd : rd s.size (n + 1) 2 none ts = fac s.size (rd s.size n 2 none) (rd s.size n 0 none) ts := by rw [rd, if_pos rfl]
  refine gcallsT Tryd.func44 rfl Tryd.ntmps44 (Nat.le_of_ble_eq_true rfl) hM0 ?_
  refine gfrom [(0, .pointer (some ⟨rg, 0, none⟩))] ⟨rfl, trivial⟩ fun σ => ?_
  refine gseq fun N1 hN1 => ?_
  refine greg ?_
  refine gop (y_assign (v := .int _ _) rfl) rfl rfl rfl ?_
  refine gop (y_assign (v := .bool _) rfl) rfl rfl rfl ?_
  refine gops_nil ?_
  refine hN1 _ _ ?_
  refine gfrom [(0, .pointer (some ⟨rg, 0, none⟩))] ⟨rfl, trivial⟩ fun σ => ?_
  refine gseq fun N2 hN2 => ?_
  refine gblock ?_
  refine gseq fun N3 hN3 => ?_
  refine greg ?_
  refine gop (y_move (v := .pointer (some ⟨rg, 0, none⟩)) rfl) rfl rfl rfl ?_
  refine gop_does1 0 (fun v r G => ∃ a' ts', v = .bool (decide (hd ts = wNot)) ∧ r = box rg (.cells #[.slice B (o).length bc, .string s, .int .i64 ((a' : Nat)), .int .i64 ((nextW s (a') : Nat)), .int .i64 code] 60) ∧ RS s a' ts' ∧ ts' = (if hd ts = wNot then ts.tail else ts) ∧ G = []) (e_call (vs := [.pointer (some ⟨rg, 0, none⟩), _]) Tryd.func45 rfl (by kernel_rfl) rfl) rfl (fun w fr1 hfr hM => (rdTake_any _ w rg _ _ _ s _ fr1 hs _ ts hrs _ hM).mono fun _ _ ⟨a', ts', h1, h2, h3, h4⟩ => ⟨_, _, [], h1, ⟨a', ts', rfl, rfl, h2, h3, rfl⟩, h4⟩) rfl rfl rfl ?_
  rintro _ _ _ ⟨a10, ts10, rfl, rfl, hrs10, hts10, rfl⟩
  refine gop (y_assign (v := .bool _) rfl) rfl rfl rfl ?_
  refine gops_nil ?_
  refine hN3 _ _ ?_
  refine gT [box rg _, rowl _ _ _ _ _ _, fr] rfl ?_
  refine gfrom [(0, .pointer (some ⟨rg, 0, none⟩)), (8, .bool _)] ⟨rfl, rfl, trivial⟩ fun σ => ?_
  refine gcond (b := _) rfl (fun hc8 => ?_) (fun hc8 => ?_)
  · 
    replace hc8 := of_decide_eq_true hc8
    have ht10 : ts10 = ts.tail := by rw [hts10, if_pos hc8]
    have hpl := hd_pos (ts := ts) (by rw [hc8]; decide)
    have htl10 : ts10.length + 1 = ts.length := by rw [ht10]; exact hpl
    refine gseq fun N4 hN4 => ?_
    refine greg ?_
    refine gop (y_move (v := .pointer (some ⟨rg, 0, none⟩)) rfl) rfl rfl rfl ?_
    refine gop_does2 0 1 (fun v r s1 G => ∃ x b B' bc' o' a' code', v = .tuple #[.int .i64 x, .bool b] ∧ r = box rg (.cells #[.slice B' o'.length bc', .string s, .int .i64 ((a' : Nat)), .int .i64 ((nextW s (a') : Nat)), .int .i64 code'] 60) ∧ s1 = rowl pnCells w0.heap.size 47 4 (.slice B' (o').length bc') (o') ∧ G = [] ∧ POK s (rd s.size n 2 none ts10) (o) code x b o' a' code') (e_call (vs := [.pointer (some ⟨rg, 0, none⟩)]) Tryd.func44 rfl (by kernel_rfl) rfl) rfl rfl rfl (fun w fr1 hfr hM => (hF w _ _ _ o fr1 _ ts10 (by omega) hrs10 (by omega) hM).mono fun _ _ ⟨x, b, B', bc', o', a', code', h1, h2, h3⟩ => ⟨_, _, _, [], h1, ⟨x, b, B', bc', o', a', code', rfl, rfl, rfl, rfl, h2⟩, h3⟩) rfl rfl rfl ?_
    rintro _ _ _ _ ⟨x13, b13, B13, bc13, o13, a13, code13, rfl, rfl, rfl, rfl, hp13⟩
    refine gop (y_move (v := .tuple #[.int _ _, .bool _]) rfl) rfl rfl rfl ?_
    refine gop (y_extract (v := .int _ _) rfl rfl) rfl rfl rfl ?_
    refine gop (y_extract (v := .bool _) rfl rfl) rfl rfl rfl ?_
    refine gop (y_assign (v := .int _ _) rfl) rfl rfl rfl ?_
    refine gop (y_assign (v := .bool _) rfl) rfl rfl rfl ?_
    refine gops_nil ?_
    refine hN4 _ _ ?_
    refine gT [box rg _, rowl _ _ _ _ _ _, fr] rfl ?_
    refine gfrom [(0, .pointer (some ⟨rg, 0, none⟩)), (4, .int _ _), (5, .bool _)] ⟨rfl, rfl, rfl, trivial⟩ fun σ => ?_
    refine gseq fun N5 hN5 => ?_
    refine gseq fun N6 hN6 => ?_
    refine greg ?_
    refine gop (y_move (v := .bool _) rfl) rfl rfl rfl ?_
    refine gop (y_not rfl) rfl rfl rfl ?_
    refine gops_nil ?_
    refine hN6 _ _ ?_
    refine gfrom [(0, .pointer (some ⟨rg, 0, none⟩)), (4, .int _ _), (17, .bool _)] ⟨rfl, rfl, rfl, trivial⟩ fun σ => ?_
    refine gcond (b := _) rfl (fun hc17 => ?_) (fun hc17 => ?_)
    · 
      replace hc17 := not_t hc17
      have hb13 : b13 = false := by simpa using hc17
      obtain ⟨hR13, ho13⟩ := pok_no hp13 hb13
      refine gseq fun N7 hN7 => ?_
      refine greg ?_
      refine gop (y_assign (v := .int _ _) rfl) rfl rfl rfl ?_
      refine gop (y_assign (v := .bool _) rfl) rfl rfl rfl ?_
      refine gops_nil ?_
      refine hN7 _ _ ?_
      refine gfrom [(2, .int _ _), (3, .bool _)] ⟨rfl, rfl, trivial⟩ fun σ => ?_
      refine gret fun w1 hM => ?_
      refine ⟨_, res2 rfl (rt (v := .int _ _) rfl) (rt (v := .bool _) rfl), ?_⟩
      have hR : rd s.size (n + 1) 2 none ts = .bad code13 a13 := by rw [hrd, fac, if_pos hc8, ← ht10, hR13]; rfl
      exact ⟨_, _, _, _, _, _, _, rfl, pok_bad hR ho13, weak_take (T' := [_, _, fr]) rfl _ hM⟩
    · 
      replace hc17 := not_f hc17
      obtain ⟨t13, us13, hR13, hx13, ho13, hrt13, hcd13⟩ := pok_yes hp13 (by first | assumption | simpa using hc17)
      have hsz13 : t13.size + us13.length ≤ ts10.length := (rd_ok s.size n 2 none ts10 t13 us13 (fun _ h => by cases h) hR13).2
      subst hx13
      subst ho13
      obtain rfl : code = code13 := hcd13.symm
      refine gskip ?_
      refine hN5 _ _ ?_
      refine gfrom [(0, .pointer (some ⟨rg, 0, none⟩)), (4, .int _ _)] ⟨rfl, rfl, trivial⟩ fun σ => ?_
      refine gseq fun N8 hN8 => ?_
      refine greg ?_
      refine gop (y_move (v := .pointer (some ⟨rg, 0, none⟩)) rfl) rfl rfl rfl ?_
      refine gop (y_nilCheck rfl) rfl rfl rfl ?_
      refine gop (y_fieldAddr_box fa60_0 rfl) rfl rfl rfl ?_
      refine gop (y_move (v := .int _ _) rfl) rfl rfl rfl ?_
      refine gop (y_build (vs := [(0, _), (2, .int _ _)]) (cells := #[_, .int .i64 0, _, .int .i64 0]) rfl (bd47_0_2 _ _)) rfl rfl rfl ?_
      refine gop_does2 0 1 (fun v r s1 G => ∃ B' bc', v = .int .i64 ((o ++ post t13 o.length).length : Nat) ∧ r = box rg (.cells #[.slice B' (o ++ post t13 o.length ++ [(⟨5, 0, ((o.length + t13.size : Nat) : Int) - 1, 0⟩ : PN)]).length bc', .string s, .int .i64 ((a13 : Nat)), .int .i64 ((nextW s (a13) : Nat)), .int .i64 code] 60) ∧ s1 = rowl pnCells w0.heap.size 47 4 (.slice B' (o ++ post t13 o.length ++ [(⟨5, 0, ((o.length + t13.size : Nat) : Int) - 1, 0⟩ : PN)]).length bc') (o ++ post t13 o.length ++ [(⟨5, 0, ((o.length + t13.size : Nat) : Int) - 1, 0⟩ : PN)]) ∧ G = []) (e_call (vs := [.pointer _, .agg #[_, _, _, _]]) Tryd.func41 rfl (by kernel_rfl) rfl) rfl rfl rfl (fun w fr1 hfr hM => (polAdd5_any _ w rg _ _ s _ _ _ (o ++ post t13 o.length) fr1 hM (by rw [app_len]; omega) ((⟨5, 0, ((o.length + t13.size : Nat) : Int) - 1, 0⟩ : PN))).mono fun _ _ ⟨B', bc', h1, h2⟩ => ⟨_, _, _, [], h1, ⟨B', bc', rfl, rfl, rfl, rfl⟩, h2⟩) rfl rfl rfl ?_
      rintro _ _ _ _ ⟨B23, bc23, rfl, rfl, rfl, rfl⟩
      refine gop (y_assign (v := .int _ _) rfl) rfl rfl rfl ?_
      refine gop (y_assign (v := .bool _) rfl) rfl rfl rfl ?_
      refine gops_nil ?_
      refine hN8 _ _ ?_
      refine gT [box rg _, rowl _ _ _ _ _ _, fr] rfl ?_
      refine gfrom [(2, .int _ _), (3, .bool _)] ⟨rfl, rfl, trivial⟩ fun σ => ?_
      refine gret fun w1 hM => ?_
      refine ⟨_, res2 rfl (rt (v := .int _ _) rfl) (rt (v := .bool _) rfl), ?_⟩
      have hR : rd s.size (n + 1) 2 none ts = .ok (.neg t13) us13 := by rw [hrd, fac, if_pos hc8, ← ht10, hR13]; rfl
      exact ⟨_, _, B23, bc23, _, _, _, rfl, pok_ok hR (by rw [app_len, size_neg]; omega) (post_neg_app o t13) hrt13, weak_take (T' := [_, _, fr]) rfl _ hM⟩
  · 
    replace hc8 := of_decide_eq_false hc8
    obtain rfl : ts = ts10 := by rw [hts10, if_neg hc8]
    obtain rfl : a = a10 := by rw [← hrs.pos, ← hrs10.pos]
    refine gseq fun N9 hN9 => ?_
    refine greg ?_
    refine gop (y_move (v := .pointer (some ⟨rg, 0, none⟩)) rfl) rfl rfl rfl ?_
    refine gop_does1 0 (fun v r G => ∃ a' ts', v = .bool (decide (hd ts = wL)) ∧ r = box rg (.cells #[.slice B (o).length bc, .string s, .int .i64 ((a' : Nat)), .int .i64 ((nextW s (a') : Nat)), .int .i64 code] 60) ∧ RS s a' ts' ∧ ts' = (if hd ts = wL then ts.tail else ts) ∧ G = []) (e_call (vs := [.pointer (some ⟨rg, 0, none⟩), _]) Tryd.func45 rfl (by kernel_rfl) rfl) rfl (fun w fr1 hfr hM => (rdTake_any _ w rg _ _ _ s _ fr1 hs _ ts hrs _ hM).mono fun _ _ ⟨a', ts', h1, h2, h3, h4⟩ => ⟨_, _, [], h1, ⟨a', ts', rfl, rfl, h2, h3, rfl⟩, h4⟩) rfl rfl rfl ?_
    rintro _ _ _ ⟨a26, ts26, rfl, rfl, hrs26, hts26, rfl⟩
    refine gop (y_assign (v := .bool _) rfl) rfl rfl rfl ?_
    refine gops_nil ?_
    refine hN9 _ _ ?_
    refine gT [box rg _, rowl _ _ _ _ _ _, fr] rfl ?_
    refine gfrom [(0, .pointer (some ⟨rg, 0, none⟩)), (24, .bool _)] ⟨rfl, rfl, trivial⟩ fun σ => ?_
    refine gcond (b := _) rfl (fun hc24 => ?_) (fun hc24 => ?_)
    · 
      replace hc24 := of_decide_eq_true hc24
      have ht26 : ts26 = ts.tail := by rw [hts26, if_pos hc24]
      have hpl := hd_pos (ts := ts) (by rw [hc24]; decide)
      have htl26 : ts26.length + 1 = ts.length := by rw [ht26]; exact hpl
      refine gseq fun N10 hN10 => ?_
      refine greg ?_
      refine gop (y_move (v := .pointer (some ⟨rg, 0, none⟩)) rfl) rfl rfl rfl ?_
      refine gop_does2 0 1 (fun v r s1 G => ∃ x b B' bc' o' a' code', v = .tuple #[.int .i64 x, .bool b] ∧ r = box rg (.cells #[.slice B' o'.length bc', .string s, .int .i64 ((a' : Nat)), .int .i64 ((nextW s (a') : Nat)), .int .i64 code'] 60) ∧ s1 = rowl pnCells w0.heap.size 47 4 (.slice B' (o').length bc') (o') ∧ G = [] ∧ POK s (rd s.size n 0 none ts26) (o) code x b o' a' code') (e_call (vs := [.pointer (some ⟨rg, 0, none⟩), _]) Tryd.func31 rfl (by kernel_rfl) rfl) rfl rfl rfl (fun w fr1 hfr hM => (hLi 0 _ w _ _ _ o fr1 _ ts26 (by omega) rfl (by omega) hrs26 (by omega) hM).mono fun _ _ ⟨x, b, B', bc', o', a', code', h1, h2, h3⟩ => ⟨_, _, _, [], h1, ⟨x, b, B', bc', o', a', code', rfl, rfl, rfl, rfl, h2⟩, h3⟩) rfl rfl rfl ?_
      rintro _ _ _ _ ⟨x29, b29, B29, bc29, o29, a29, code29, rfl, rfl, rfl, rfl, hp29⟩
      refine gop (y_move (v := .tuple #[.int _ _, .bool _]) rfl) rfl rfl rfl ?_
      refine gop (y_extract (v := .int _ _) rfl rfl) rfl rfl rfl ?_
      refine gop (y_extract (v := .bool _) rfl rfl) rfl rfl rfl ?_
      refine gop (y_assign (v := .int _ _) rfl) rfl rfl rfl ?_
      refine gop (y_assign (v := .bool _) rfl) rfl rfl rfl ?_
      refine gops_nil ?_
      refine hN10 _ _ ?_
      refine gT [box rg _, rowl _ _ _ _ _ _, fr] rfl ?_
      refine gfrom [(0, .pointer (some ⟨rg, 0, none⟩)), (6, .int _ _), (7, .bool _)] ⟨rfl, rfl, rfl, trivial⟩ fun σ => ?_
      refine gseq fun N11 hN11 => ?_
      refine gseq fun N12 hN12 => ?_
      refine greg ?_
      refine gop (y_move (v := .bool _) rfl) rfl rfl rfl ?_
      refine gop (y_move (v := .bool _) rfl) rfl rfl rfl ?_
      refine gop_if (want := true) rfl rfl rfl rfl rfl rfl (fun hg33 => ?_) (fun hg33 => ?_)
      · 
        have hg33d := hg33
        obtain ⟨t29, us29, hR29, hx29, ho29, hrt29, hcd29⟩ := pok_yes hp29 (by first | assumption | simpa using hg33d)
        have hsz29 : t29.size + us29.length ≤ ts26.length := (rd_ok s.size n 0 none ts26 t29 us29 (fun _ h => by cases h) hR29).2
        subst hx29
        subst ho29
        obtain rfl : code = code29 := hcd29.symm
        refine gop (y_bare (y_move (v := .pointer (some ⟨rg, 0, none⟩)) rfl)) rfl rfl rfl ?_
        refine gop_on rfl rfl rfl rfl hg33 ?_
        refine gop_does1 0 (fun v r G => ∃ a' ts', v = .bool (decide (hd us29 = wR)) ∧ r = box rg (.cells #[.slice B29 (o ++ post t29 o.length).length bc29, .string s, .int .i64 ((a' : Nat)), .int .i64 ((nextW s (a') : Nat)), .int .i64 code] 60) ∧ RS s a' ts' ∧ ts' = (if hd us29 = wR then us29.tail else us29) ∧ G = []) (e_call (vs := [.pointer (some ⟨rg, 0, none⟩), _]) Tryd.func45 rfl (by kernel_rfl) rfl) rfl (fun w fr1 hfr hM => (rdTake_any _ w rg _ _ _ s _ fr1 hs _ us29 hrt29 _ hM).mono fun _ _ ⟨a', ts', h1, h2, h3, h4⟩ => ⟨_, _, [], h1, ⟨a', ts', rfl, rfl, h2, h3, rfl⟩, h4⟩) rfl rfl rfl ?_
        rintro _ _ _ ⟨a35, ts35, rfl, rfl, hrs35, hts35, rfl⟩
        refine gop_on rfl rfl rfl rfl hg33 ?_
        refine gop (y_bare (y_not rfl)) rfl rfl rfl ?_
        refine gop (y_pick_t (v := .bool _) rfl hg33 rfl) rfl rfl rfl ?_
        refine gops_nil ?_
        refine hN12 _ _ ?_
        refine gT [box rg _, rowl _ _ _ _ _ _, fr] rfl ?_
        refine gfrom [(0, .pointer (some ⟨rg, 0, none⟩)), (6, .int _ _), (7, .bool _), (37, .bool _)] ⟨rfl, rfl, rfl, rfl, trivial⟩ fun σ => ?_
        refine gcond (b := _) rfl (fun hc37 => ?_) (fun hc37 => ?_)
        · 
          replace hc37 := not_t hc37
          have hw : ¬ hd us29 = wR := by simpa using hc37
          obtain rfl : us29 = ts35 := by rw [hts35, if_neg hw]
          obtain rfl : a29 = a35 := by rw [← hrt29.pos, ← hrs35.pos]
          refine gseq fun N13 hN13 => ?_
          refine greg ?_
          refine gop (y_move (v := .pointer (some ⟨rg, 0, none⟩)) rfl) rfl rfl rfl ?_
          refine gop_does1 0 (fun v r G => v = .tuple #[.int .i64 0, .bool false] ∧ r = box rg (.cells #[.slice B29 (o ++ post t29 o.length).length bc29, .string s, .int .i64 ((a29 : Nat)), .int .i64 ((nextW s (a29) : Nat)), .int .i64 1] 60) ∧ G = []) (e_call (vs := [.pointer (some ⟨rg, 0, none⟩), _]) Tryd.func32 rfl (by kernel_rfl) rfl) rfl (fun w fr1 hfr hM => (rdFail_any _ w rg _ _ _ s _ _ _ fr1 1 hM).mono fun _ _ ⟨h1, h2⟩ => ⟨_, _, [], h1, ⟨rfl, rfl, rfl⟩, h2⟩) rfl rfl rfl ?_
          rintro _ _ _ ⟨rfl, rfl, rfl⟩
          refine gop (y_extract (v := .int _ _) rfl rfl) rfl rfl rfl ?_
          refine gop (y_extract (v := .bool _) rfl rfl) rfl rfl rfl ?_
          refine gop (y_assign (v := .int _ _) rfl) rfl rfl rfl ?_
          refine gop (y_assign (v := .bool _) rfl) rfl rfl rfl ?_
          refine gops_nil ?_
          refine hN13 _ _ ?_
          refine gT [box rg _, rowl _ _ _ _ _ _, fr] rfl ?_
          refine gfrom [(2, .int _ _), (3, .bool _)] ⟨rfl, rfl, trivial⟩ fun σ => ?_
          refine gret fun w1 hM => ?_
          refine ⟨_, res2 rfl (rt (v := .int _ _) rfl) (rt (v := .bool _) rfl), ?_⟩
          have hR : rd s.size (n + 1) 2 none ts = .bad 1 a29 := by
            rw [hrd, fac, if_neg hc8, if_pos hc24, ← ht26, hR29]
            show (if hd us29 = wR then _ else Res.bad 1 (pos s.size us29)) = _
            rw [if_neg hw, hrt29.pos]
          exact ⟨_, _, _, _, _, _, _, rfl, pok_bad hR (by rw [app_len]; omega), weak_take (T' := [_, _, fr]) rfl _ hM⟩
        · 
          replace hc37 := not_f hc37
          refine gskip ?_
          refine hN11 _ _ ?_
          refine gfrom [(6, .int _ _), (7, .bool _)] ⟨rfl, rfl, trivial⟩ fun σ => ?_
          refine gseq fun N14 hN14 => ?_
          refine greg ?_
          refine gop (y_move (v := .int _ _) rfl) rfl rfl rfl ?_
          refine gop (y_move (v := .bool _) rfl) rfl rfl rfl ?_
          refine gop (y_assign (v := .int _ _) rfl) rfl rfl rfl ?_
          refine gop (y_assign (v := .bool _) rfl) rfl rfl rfl ?_
          refine gops_nil ?_
          refine hN14 _ _ ?_
          refine gfrom [(2, .int _ _), (3, .bool _)] ⟨rfl, rfl, trivial⟩ fun σ => ?_
          refine gret fun w1 hM => ?_
          refine ⟨_, res2 rfl (rt (v := .int _ _) rfl) (rt (v := .bool _) rfl), ?_⟩
          first
          | (have hw : hd us29 = wR := by simpa using hc37
             have hR : rd s.size (n + 1) 2 none ts = .ok t29 ts35 := by
               rw [hrd, fac, if_neg hc8, if_pos hc24, ← ht26, hR29]
               show (if hd us29 = wR then Res.ok t29 us29.tail else _) = _
               rw [if_pos hw, hts35, if_pos hw]
             exact ⟨_, _, B29, bc29, _, _, _, rfl, pok_ok2 (by assumption) hR rfl rfl hrs35, weak_take (T' := [_, _, fr]) rfl _ hM⟩)
          | (obtain ⟨hR29, ho29⟩ := pok_no hp29 (by assumption)
             have hR : rd s.size (n + 1) 2 none ts = .bad code29 a29 := by rw [hrd, fac, if_neg hc8, if_pos hc24, ← ht26, hR29]; rfl
             exact ⟨_, _, _, _, _, _, _, rfl, pok_bad2 (by assumption) hR ho29, weak_take (T' := [_, _, fr]) rfl _ hM⟩)
      · 
        have hg33d := hg33
        refine gop_off rfl rfl rfl rfl hg33 rfl rfl ?_
        refine gop_off rfl rfl rfl rfl hg33 rfl rfl ?_
        refine gop (y_pick_f (v := .bool _) rfl hg33 rfl) rfl rfl rfl ?_
        refine gops_nil ?_
        refine hN12 _ _ ?_
        refine gfrom [(0, .pointer (some ⟨rg, 0, none⟩)), (6, .int _ _), (7, .bool _), (37, .bool _)] ⟨rfl, rfl, rfl, rfl, trivial⟩ fun σ => ?_
        refine gcond (b := _) rfl (fun hc37 => ?_) (fun hc37 => ?_)
        · 
          cases hc37
        · 
          refine gskip ?_
          refine hN11 _ _ ?_
          refine gfrom [(6, .int _ _), (7, .bool _)] ⟨rfl, rfl, trivial⟩ fun σ => ?_
          refine gseq fun N15 hN15 => ?_
          refine greg ?_
          refine gop (y_move (v := .int _ _) rfl) rfl rfl rfl ?_
          refine gop (y_move (v := .bool _) rfl) rfl rfl rfl ?_
          refine gop (y_assign (v := .int _ _) rfl) rfl rfl rfl ?_
          refine gop (y_assign (v := .bool _) rfl) rfl rfl rfl ?_
          refine gops_nil ?_
          refine hN15 _ _ ?_
          refine gfrom [(2, .int _ _), (3, .bool _)] ⟨rfl, rfl, trivial⟩ fun σ => ?_
          refine gret fun w1 hM => ?_
          refine ⟨_, res2 rfl (rt (v := .int _ _) rfl) (rt (v := .bool _) rfl), ?_⟩
          first
          | (have hw : hd us29 = wR := by simpa using hc37
             have hR : rd s.size (n + 1) 2 none ts = .ok t29 ts35 := by
               rw [hrd, fac, if_neg hc8, if_pos hc24, ← ht26, hR29]
               show (if hd us29 = wR then Res.ok t29 us29.tail else _) = _
               rw [if_pos hw, hts35, if_pos hw]
             exact ⟨_, _, B29, bc29, _, _, _, rfl, pok_ok2 (by assumption) hR rfl rfl hrs35, weak_take (T' := [_, _, fr]) rfl _ hM⟩)
          | (obtain ⟨hR29, ho29⟩ := pok_no hp29 (by assumption)
             have hR : rd s.size (n + 1) 2 none ts = .bad code29 a29 := by rw [hrd, fac, if_neg hc8, if_pos hc24, ← ht26, hR29]; rfl
             exact ⟨_, _, _, _, _, _, _, rfl, pok_bad2 (by assumption) hR ho29, weak_take (T' := [_, _, fr]) rfl _ hM⟩)
    · 
      replace hc24 := of_decide_eq_false hc24
      obtain rfl : ts = ts26 := by rw [hts26, if_neg hc24]
      obtain rfl : a = a26 := by rw [← hrs.pos, ← hrs26.pos]
      refine gseq fun N16 hN16 => ?_
      refine greg ?_
      refine gop (y_move (v := .pointer (some ⟨rg, 0, none⟩)) rfl) rfl rfl rfl ?_
      refine gop_does1 0 (fun v r G => ∃ a' ts', v = .bool (decide (hd ts = wScore)) ∧ r = box rg (.cells #[.slice B (o).length bc, .string s, .int .i64 ((a' : Nat)), .int .i64 ((nextW s (a') : Nat)), .int .i64 code] 60) ∧ RS s a' ts' ∧ ts' = (if hd ts = wScore then ts.tail else ts) ∧ G = []) (e_call (vs := [.pointer (some ⟨rg, 0, none⟩), _]) Tryd.func45 rfl (by kernel_rfl) rfl) rfl (fun w fr1 hfr hM => (rdTake_any _ w rg _ _ _ s _ fr1 hs _ ts hrs _ hM).mono fun _ _ ⟨a', ts', h1, h2, h3, h4⟩ => ⟨_, _, [], h1, ⟨a', ts', rfl, rfl, h2, h3, rfl⟩, h4⟩) rfl rfl rfl ?_
      rintro _ _ _ ⟨a46, ts46, rfl, rfl, hrs46, hts46, rfl⟩
      refine gop (y_assign (v := .bool _) rfl) rfl rfl rfl ?_
      refine gops_nil ?_
      refine hN16 _ _ ?_
      refine gT [box rg _, rowl _ _ _ _ _ _, fr] rfl ?_
      refine gfrom [(0, .pointer (some ⟨rg, 0, none⟩)), (44, .bool _)] ⟨rfl, rfl, trivial⟩ fun σ => ?_
      refine gcond (b := _) rfl (fun hc44 => ?_) (fun hc44 => ?_)
      · 
        replace hc44 := of_decide_eq_true hc44
        have ht46 : ts46 = ts.tail := by rw [hts46, if_pos hc44]
        have hpl := hd_pos (ts := ts) (by rw [hc44]; decide)
        have htl46 : ts46.length + 1 = ts.length := by rw [ht46]; exact hpl
        refine gseq fun N17 hN17 => ?_
        refine greg ?_
        refine gop (y_move (v := .pointer (some ⟨rg, 0, none⟩)) rfl) rfl rfl rfl ?_
        refine gop_does2 0 1 (fun v r s1 G => ∃ x b B' bc' o' a' code', v = .tuple #[.int .i64 x, .bool b] ∧ r = box rg (.cells #[.slice B' o'.length bc', .string s, .int .i64 ((a' : Nat)), .int .i64 ((nextW s (a') : Nat)), .int .i64 code'] 60) ∧ s1 = rowl pnCells w0.heap.size 47 4 (.slice B' (o').length bc') (o') ∧ G = [] ∧ POK s (numR s.size 1 ts46) (o) code x b o' a' code') (e_call (vs := [.pointer (some ⟨rg, 0, none⟩), _]) Tryd.func48 rfl (by kernel_rfl) rfl) rfl rfl rfl (fun w fr1 hfr hM => (rdNumber_any _ w rg _ _ s _ o fr1 hs _ ts46 hrs46 _ (by omega) hL hM).mono fun _ _ ⟨x, b, B', bc', o', a', code', h1, h2, h3⟩ => ⟨_, _, _, [], h1, ⟨x, b, B', bc', o', a', code', rfl, rfl, rfl, rfl, h2⟩, h3⟩) rfl rfl rfl ?_
        rintro _ _ _ _ ⟨x48, b48, B48, bc48, o48, a48, code48, rfl, rfl, rfl, rfl, hp48⟩
        refine gop (y_extract (v := .int _ _) rfl rfl) rfl rfl rfl ?_
        refine gop (y_extract (v := .bool _) rfl rfl) rfl rfl rfl ?_
        refine gop (y_assign (v := .int _ _) rfl) rfl rfl rfl ?_
        refine gop (y_assign (v := .bool _) rfl) rfl rfl rfl ?_
        refine gops_nil ?_
        refine hN17 _ _ ?_
        refine gT [box rg _, rowl _ _ _ _ _ _, fr] rfl ?_
        refine gfrom [(2, .int _ _), (3, .bool _)] ⟨rfl, rfl, trivial⟩ fun σ => ?_
        refine gret fun w1 hM => ?_
        refine ⟨_, res2 rfl (rt (v := .int _ _) rfl) (rt (v := .bool _) rfl), ?_⟩
        have hR : rd s.size (n + 1) 2 none ts = numR s.size 1 ts46 := by rw [hrd, fac, if_neg hc8, if_neg hc24, if_pos hc44, ht46]
        exact ⟨x48, b48, B48, bc48, o48, a48, code48, rfl, by rw [hR]; exact hp48, weak_take (T' := [_, _, fr]) rfl _ hM⟩
      · 
        replace hc44 := of_decide_eq_false hc44
        obtain rfl : ts = ts46 := by rw [hts46, if_neg hc44]
        obtain rfl : a = a46 := by rw [← hrs.pos, ← hrs46.pos]
        refine gseq fun N18 hN18 => ?_
        refine greg ?_
        refine gop (y_move (v := .pointer (some ⟨rg, 0, none⟩)) rfl) rfl rfl rfl ?_
        refine gop_does1 0 (fun v r G => ∃ a' ts', v = .bool (decide (hd ts = wUser)) ∧ r = box rg (.cells #[.slice B (o).length bc, .string s, .int .i64 ((a' : Nat)), .int .i64 ((nextW s (a') : Nat)), .int .i64 code] 60) ∧ RS s a' ts' ∧ ts' = (if hd ts = wUser then ts.tail else ts) ∧ G = []) (e_call (vs := [.pointer (some ⟨rg, 0, none⟩), _]) Tryd.func45 rfl (by kernel_rfl) rfl) rfl (fun w fr1 hfr hM => (rdTake_any _ w rg _ _ _ s _ fr1 hs _ ts hrs _ hM).mono fun _ _ ⟨a', ts', h1, h2, h3, h4⟩ => ⟨_, _, [], h1, ⟨a', ts', rfl, rfl, h2, h3, rfl⟩, h4⟩) rfl rfl rfl ?_
        rintro _ _ _ ⟨a53, ts53, rfl, rfl, hrs53, hts53, rfl⟩
        refine gop (y_assign (v := .bool _) rfl) rfl rfl rfl ?_
        refine gops_nil ?_
        refine hN18 _ _ ?_
        refine gT [box rg _, rowl _ _ _ _ _ _, fr] rfl ?_
        refine gfrom [(0, .pointer (some ⟨rg, 0, none⟩)), (51, .bool _)] ⟨rfl, rfl, trivial⟩ fun σ => ?_
        refine gcond (b := _) rfl (fun hc51 => ?_) (fun hc51 => ?_)
        · 
          replace hc51 := of_decide_eq_true hc51
          have ht53 : ts53 = ts.tail := by rw [hts53, if_pos hc51]
          have hpl := hd_pos (ts := ts) (by rw [hc51]; decide)
          have htl53 : ts53.length + 1 = ts.length := by rw [ht53]; exact hpl
          refine gseq fun N19 hN19 => ?_
          refine greg ?_
          refine gop (y_move (v := .pointer (some ⟨rg, 0, none⟩)) rfl) rfl rfl rfl ?_
          refine gop_does2 0 1 (fun v r s1 G => ∃ x b B' bc' o' a' code', v = .tuple #[.int .i64 x, .bool b] ∧ r = box rg (.cells #[.slice B' o'.length bc', .string s, .int .i64 ((a' : Nat)), .int .i64 ((nextW s (a') : Nat)), .int .i64 code'] 60) ∧ s1 = rowl pnCells w0.heap.size 47 4 (.slice B' (o').length bc') (o') ∧ G = [] ∧ POK s (numR s.size 4 ts53) (o) code x b o' a' code') (e_call (vs := [.pointer (some ⟨rg, 0, none⟩), _]) Tryd.func48 rfl (by kernel_rfl) rfl) rfl rfl rfl (fun w fr1 hfr hM => (rdNumber_any _ w rg _ _ s _ o fr1 hs _ ts53 hrs53 _ (by omega) hL hM).mono fun _ _ ⟨x, b, B', bc', o', a', code', h1, h2, h3⟩ => ⟨_, _, _, [], h1, ⟨x, b, B', bc', o', a', code', rfl, rfl, rfl, rfl, h2⟩, h3⟩) rfl rfl rfl ?_
          rintro _ _ _ _ ⟨x55, b55, B55, bc55, o55, a55, code55, rfl, rfl, rfl, rfl, hp55⟩
          refine gop (y_extract (v := .int _ _) rfl rfl) rfl rfl rfl ?_
          refine gop (y_extract (v := .bool _) rfl rfl) rfl rfl rfl ?_
          refine gop (y_assign (v := .int _ _) rfl) rfl rfl rfl ?_
          refine gop (y_assign (v := .bool _) rfl) rfl rfl rfl ?_
          refine gops_nil ?_
          refine hN19 _ _ ?_
          refine gT [box rg _, rowl _ _ _ _ _ _, fr] rfl ?_
          refine gfrom [(2, .int _ _), (3, .bool _)] ⟨rfl, rfl, trivial⟩ fun σ => ?_
          refine gret fun w1 hM => ?_
          refine ⟨_, res2 rfl (rt (v := .int _ _) rfl) (rt (v := .bool _) rfl), ?_⟩
          have hR : rd s.size (n + 1) 2 none ts = numR s.size 4 ts53 := by rw [hrd, fac, if_neg hc8, if_neg hc24, if_neg hc44, if_pos hc51, ht53]
          exact ⟨x55, b55, B55, bc55, o55, a55, code55, rfl, by rw [hR]; exact hp55, weak_take (T' := [_, _, fr]) rfl _ hM⟩
        · 
          replace hc51 := of_decide_eq_false hc51
          obtain rfl : ts = ts53 := by rw [hts53, if_neg hc51]
          obtain rfl : a = a53 := by rw [← hrs.pos, ← hrs53.pos]
          refine gseq fun N20 hN20 => ?_
          refine greg ?_
          refine gop (y_move (v := .pointer (some ⟨rg, 0, none⟩)) rfl) rfl rfl rfl ?_
          refine gop_does1 0 (fun v r G => ∃ a' ts', v = .bool (decide (hd ts = wOwners)) ∧ r = box rg (.cells #[.slice B (o).length bc, .string s, .int .i64 ((a' : Nat)), .int .i64 ((nextW s (a') : Nat)), .int .i64 code] 60) ∧ RS s a' ts' ∧ ts' = (if hd ts = wOwners then ts.tail else ts) ∧ G = []) (e_call (vs := [.pointer (some ⟨rg, 0, none⟩), _]) Tryd.func45 rfl (by kernel_rfl) rfl) rfl (fun w fr1 hfr hM => (rdTake_any _ w rg _ _ _ s _ fr1 hs _ ts hrs _ hM).mono fun _ _ ⟨a', ts', h1, h2, h3, h4⟩ => ⟨_, _, [], h1, ⟨a', ts', rfl, rfl, h2, h3, rfl⟩, h4⟩) rfl rfl rfl ?_
          rintro _ _ _ ⟨a60, ts60, rfl, rfl, hrs60, hts60, rfl⟩
          refine gop (y_assign (v := .bool _) rfl) rfl rfl rfl ?_
          refine gops_nil ?_
          refine hN20 _ _ ?_
          refine gT [box rg _, rowl _ _ _ _ _ _, fr] rfl ?_
          refine gfrom [(0, .pointer (some ⟨rg, 0, none⟩)), (58, .bool _)] ⟨rfl, rfl, trivial⟩ fun σ => ?_
          refine gcond (b := _) rfl (fun hc58 => ?_) (fun hc58 => ?_)
          · 
            replace hc58 := of_decide_eq_true hc58
            have ht60 : ts60 = ts.tail := by rw [hts60, if_pos hc58]
            have hpl := hd_pos (ts := ts) (by rw [hc58]; decide)
            have htl60 : ts60.length + 1 = ts.length := by rw [ht60]; exact hpl
            refine gseq fun N21 hN21 => ?_
            refine greg ?_
            refine gop (y_move (v := .pointer (some ⟨rg, 0, none⟩)) rfl) rfl rfl rfl ?_
            refine gop (y_nilCheck rfl) rfl rfl rfl ?_
            refine gop (y_fieldAddr_box fa60_0 rfl) rfl rfl rfl ?_
            refine gop (y_build (vs := [(0, _)]) (cells := #[_, .int .i64 0, .int .i64 0, .int .i64 0]) rfl (bd47_0 _)) rfl rfl rfl ?_
            refine gop_does2 0 1 (fun v r s1 G => ∃ B' bc', v = .int .i64 ((o).length : Nat) ∧ r = box rg (.cells #[.slice B' (o ++ [(⟨2, 0, 0, 0⟩ : PN)]).length bc', .string s, .int .i64 ((a60 : Nat)), .int .i64 ((nextW s (a60) : Nat)), .int .i64 code] 60) ∧ s1 = rowl pnCells w0.heap.size 47 4 (.slice B' (o ++ [(⟨2, 0, 0, 0⟩ : PN)]).length bc') (o ++ [(⟨2, 0, 0, 0⟩ : PN)]) ∧ G = []) (e_call (vs := [.pointer _, .agg #[_, _, _, _]]) Tryd.func41 rfl (by kernel_rfl) rfl) rfl rfl rfl (fun w fr1 hfr hM => (polAdd5_any _ w rg _ _ s _ _ _ (o) fr1 hM (by omega) ((⟨2, 0, 0, 0⟩ : PN))).mono fun _ _ ⟨B', bc', h1, h2⟩ => ⟨_, _, _, [], h1, ⟨B', bc', rfl, rfl, rfl, rfl⟩, h2⟩) rfl rfl rfl ?_
            rintro _ _ _ _ ⟨B65, bc65, rfl, rfl, rfl, rfl⟩
            refine gop (y_assign (v := .int _ _) rfl) rfl rfl rfl ?_
            refine gop (y_assign (v := .bool _) rfl) rfl rfl rfl ?_
            refine gops_nil ?_
            refine hN21 _ _ ?_
            refine gT [box rg _, rowl _ _ _ _ _ _, fr] rfl ?_
            refine gfrom [(2, .int _ _), (3, .bool _)] ⟨rfl, rfl, trivial⟩ fun σ => ?_
            refine gret fun w1 hM => ?_
            refine ⟨_, res2 rfl (rt (v := .int _ _) rfl) (rt (v := .bool _) rfl), ?_⟩
            have hR : rd s.size (n + 1) 2 none ts = .ok (.leaf 2 0) ts60 := by rw [hrd, fac, if_neg hc8, if_neg hc24, if_neg hc44, if_neg hc51, if_pos hc58, ht60]
            exact ⟨_, _, B65, bc65, _, _, _, rfl, pok_ok hR (by simp only [Tr.size]; omega) rfl hrs60, weak_take (T' := [_, _, fr]) rfl _ hM⟩
          · 
            replace hc58 := of_decide_eq_false hc58
            obtain rfl : ts = ts60 := by rw [hts60, if_neg hc58]
            obtain rfl : a = a60 := by rw [← hrs.pos, ← hrs60.pos]
            refine gseq fun N22 hN22 => ?_
            refine greg ?_
            refine gop (y_move (v := .pointer (some ⟨rg, 0, none⟩)) rfl) rfl rfl rfl ?_
            refine gop_does1 0 (fun v r G => ∃ a' ts', v = .bool (decide (hd ts = wTests)) ∧ r = box rg (.cells #[.slice B (o).length bc, .string s, .int .i64 ((a' : Nat)), .int .i64 ((nextW s (a') : Nat)), .int .i64 code] 60) ∧ RS s a' ts' ∧ ts' = (if hd ts = wTests then ts.tail else ts) ∧ G = []) (e_call (vs := [.pointer (some ⟨rg, 0, none⟩), _]) Tryd.func45 rfl (by kernel_rfl) rfl) rfl (fun w fr1 hfr hM => (rdTake_any _ w rg _ _ _ s _ fr1 hs _ ts hrs _ hM).mono fun _ _ ⟨a', ts', h1, h2, h3, h4⟩ => ⟨_, _, [], h1, ⟨a', ts', rfl, rfl, h2, h3, rfl⟩, h4⟩) rfl rfl rfl ?_
            rintro _ _ _ ⟨a68, ts68, rfl, rfl, hrs68, hts68, rfl⟩
            refine gop (y_assign (v := .bool _) rfl) rfl rfl rfl ?_
            refine gops_nil ?_
            refine hN22 _ _ ?_
            refine gT [box rg _, rowl _ _ _ _ _ _, fr] rfl ?_
            refine gfrom [(0, .pointer (some ⟨rg, 0, none⟩)), (66, .bool _)] ⟨rfl, rfl, trivial⟩ fun σ => ?_
            refine gcond (b := _) rfl (fun hc66 => ?_) (fun hc66 => ?_)
            · 
              replace hc66 := of_decide_eq_true hc66
              have ht68 : ts68 = ts.tail := by rw [hts68, if_pos hc66]
              have hpl := hd_pos (ts := ts) (by rw [hc66]; decide)
              have htl68 : ts68.length + 1 = ts.length := by rw [ht68]; exact hpl
              refine gseq fun N23 hN23 => ?_
              refine greg ?_
              refine gop (y_move (v := .pointer (some ⟨rg, 0, none⟩)) rfl) rfl rfl rfl ?_
              refine gop (y_nilCheck rfl) rfl rfl rfl ?_
              refine gop (y_fieldAddr_box fa60_0 rfl) rfl rfl rfl ?_
              refine gop (y_build (vs := [(0, _)]) (cells := #[_, .int .i64 0, .int .i64 0, .int .i64 0]) rfl (bd47_0 _)) rfl rfl rfl ?_
              refine gop_does2 0 1 (fun v r s1 G => ∃ B' bc', v = .int .i64 ((o).length : Nat) ∧ r = box rg (.cells #[.slice B' (o ++ [(⟨3, 0, 0, 0⟩ : PN)]).length bc', .string s, .int .i64 ((a68 : Nat)), .int .i64 ((nextW s (a68) : Nat)), .int .i64 code] 60) ∧ s1 = rowl pnCells w0.heap.size 47 4 (.slice B' (o ++ [(⟨3, 0, 0, 0⟩ : PN)]).length bc') (o ++ [(⟨3, 0, 0, 0⟩ : PN)]) ∧ G = []) (e_call (vs := [.pointer _, .agg #[_, _, _, _]]) Tryd.func41 rfl (by kernel_rfl) rfl) rfl rfl rfl (fun w fr1 hfr hM => (polAdd5_any _ w rg _ _ s _ _ _ (o) fr1 hM (by omega) ((⟨3, 0, 0, 0⟩ : PN))).mono fun _ _ ⟨B', bc', h1, h2⟩ => ⟨_, _, _, [], h1, ⟨B', bc', rfl, rfl, rfl, rfl⟩, h2⟩) rfl rfl rfl ?_
              rintro _ _ _ _ ⟨B73, bc73, rfl, rfl, rfl, rfl⟩
              refine gop (y_assign (v := .int _ _) rfl) rfl rfl rfl ?_
              refine gop (y_assign (v := .bool _) rfl) rfl rfl rfl ?_
              refine gops_nil ?_
              refine hN23 _ _ ?_
              refine gT [box rg _, rowl _ _ _ _ _ _, fr] rfl ?_
              refine gfrom [(2, .int _ _), (3, .bool _)] ⟨rfl, rfl, trivial⟩ fun σ => ?_
              refine gret fun w1 hM => ?_
              refine ⟨_, res2 rfl (rt (v := .int _ _) rfl) (rt (v := .bool _) rfl), ?_⟩
              have hR : rd s.size (n + 1) 2 none ts = .ok (.leaf 3 0) ts68 := by rw [hrd, fac, if_neg hc8, if_neg hc24, if_neg hc44, if_neg hc51, if_neg hc58, if_pos hc66, ht68]
              exact ⟨_, _, B73, bc73, _, _, _, rfl, pok_ok hR (by simp only [Tr.size]; omega) rfl hrs68, weak_take (T' := [_, _, fr]) rfl _ hM⟩
            · 
              replace hc66 := of_decide_eq_false hc66
              obtain rfl : ts = ts68 := by rw [hts68, if_neg hc66]
              obtain rfl : a = a68 := by rw [← hrs.pos, ← hrs68.pos]
              refine gskip ?_
              refine hN2 _ _ ?_
              refine gfrom [(0, .pointer (some ⟨rg, 0, none⟩))] ⟨rfl, trivial⟩ fun σ => ?_
              refine gseq fun N24 hN24 => ?_
              refine greg ?_
              refine gop (y_move (v := .pointer (some ⟨rg, 0, none⟩)) rfl) rfl rfl rfl ?_
              refine gop_does1 0 (fun v r G => v = .tuple #[.int .i64 0, .bool false] ∧ r = box rg (.cells #[.slice B o.length bc, .string s, .int .i64 ((a : Nat)), .int .i64 ((nextW s (a) : Nat)), .int .i64 1] 60) ∧ G = []) (e_call (vs := [.pointer (some ⟨rg, 0, none⟩), _]) Tryd.func32 rfl (by kernel_rfl) rfl) rfl (fun w fr1 hfr hM => (rdFail_any _ w rg _ _ _ s _ _ _ fr1 1 hM).mono fun _ _ ⟨h1, h2⟩ => ⟨_, _, [], h1, ⟨rfl, rfl, rfl⟩, h2⟩) rfl rfl rfl ?_
              rintro _ _ _ ⟨rfl, rfl, rfl⟩
              refine gop (y_extract (v := .int _ _) rfl rfl) rfl rfl rfl ?_
              refine gop (y_extract (v := .bool _) rfl rfl) rfl rfl rfl ?_
              refine gop (y_assign (v := .int _ _) rfl) rfl rfl rfl ?_
              refine gop (y_assign (v := .bool _) rfl) rfl rfl rfl ?_
              refine gops_nil ?_
              refine hN24 _ _ ?_
              refine gT [box rg _, rowl _ _ _ _ _ _, fr] rfl ?_
              refine gfrom [(2, .int _ _), (3, .bool _)] ⟨rfl, rfl, trivial⟩ fun σ => ?_
              refine gret fun w1 hM => ?_
              refine ⟨_, res2 rfl (rt (v := .int _ _) rfl) (rt (v := .bool _) rfl), ?_⟩
              have hR : rd s.size (n + 1) 2 none ts = .bad 1 a := by rw [hrd, fac, if_neg hc8, if_neg hc24, if_neg hc44, if_neg hc51, if_neg hc58, if_neg hc66, hrs.pos]
              exact ⟨_, _, B, bc, o, _, _, rfl, pok_bad hR (by omega), weak_take (T' := [_, _, fr]) rfl _ hM⟩
end Go.Proofs.YtllblbkbglifjaaDoor
namespace Go.Proofs.YtllblbkbglifjaaDoor
open Go.RowKit Go.Cf
set_option maxRecDepth 10000
set_option maxHeartbeats 16000000 in
theorem rdList_step (w0 : World) (s : ByteArray) (hs : s.size ≤ 200) (rg n : Nat) (hFac : FacH w0 s rg (n + 1)) (hLi : ∀ m, m ≤ n → ListH w0 s rg m) : ListH w0 s rg (n + 1) := by
  intro lv vi w B bc code o fr a ts hlv hvi hfu hrs hol hM0
  refine gcallsT Tryd.func31 rfl Tryd.ntmps31 (Nat.le_of_ble_eq_true rfl) hM0 ?_
  refine gfrom [(0, .pointer (some ⟨rg, 0, none⟩)), (1, .int _ _)] ⟨rfl, rfl, trivial⟩ fun σ => ?_
  refine gseq fun N1 hN1 => ?_
  refine greg ?_
  refine gop (y_assign (v := .int _ _) rfl) rfl rfl rfl ?_
  refine gop (y_assign (v := .bool _) rfl) rfl rfl rfl ?_
  refine gops_nil ?_
  refine hN1 _ _ ?_
  refine gfrom [(0, .pointer (some ⟨rg, 0, none⟩)), (1, .int _ _)] ⟨rfl, rfl, trivial⟩ fun σ => ?_
  refine gseq fun N2 hN2 => ?_
  refine gseq fun N3 hN3 => ?_
  refine greg ?_
  refine gop (y_move (v := .int _ _) rfl) rfl rfl rfl ?_
  refine gop (y_eql rfl rfl) rfl rfl rfl ?_
  refine gops_nil ?_
  refine hN3 _ _ ?_
  refine gfrom [(0, .pointer (some ⟨rg, 0, none⟩)), (1, .int _ _), (12, .bool _)] ⟨rfl, rfl, rfl, trivial⟩ fun σ => ?_
  refine gcond (b := _) rfl (fun hc12 => ?_) (fun hc12 => ?_)
  · 
    replace hc12 := of_decide_eq_true hc12
    obtain rfl : lv = 2 := by omega
    refine gseq fun N4 hN4 => ?_
    refine greg ?_
    refine gop (y_move (v := .pointer (some ⟨rg, 0, none⟩)) rfl) rfl rfl rfl ?_
    refine gop_does2 0 1 (fun v r s1 G => ∃ x b B' bc' o' a' code', v = .tuple #[.int .i64 x, .bool b] ∧ r = box rg (.cells #[.slice B' o'.length bc', .string s, .int .i64 ((a' : Nat)), .int .i64 ((nextW s (a') : Nat)), .int .i64 code'] 60) ∧ s1 = rowl pnCells w0.heap.size 47 4 (.slice B' (o').length bc') (o') ∧ G = [] ∧ POK s (rd s.size (n + 1) 2 none ts) (o) code x b o' a' code') (e_call (vs := [.pointer (some ⟨rg, 0, none⟩)]) Tryd.func44 rfl (by kernel_rfl) rfl) rfl rfl rfl (fun w fr1 hfr hM => (hFac w _ _ _ o fr1 _ ts (by omega) hrs (by omega) hM).mono fun _ _ ⟨x, b, B', bc', o', a', code', h1, h2, h3⟩ => ⟨_, _, _, [], h1, ⟨x, b, B', bc', o', a', code', rfl, rfl, rfl, rfl, h2⟩, h3⟩) rfl rfl rfl ?_
    rintro _ _ _ _ ⟨x14, b14, B14, bc14, o14, a14, code14, rfl, rfl, rfl, rfl, hp14⟩
    refine gop (y_extract (v := .int _ _) rfl rfl) rfl rfl rfl ?_
    refine gop (y_extract (v := .bool _) rfl rfl) rfl rfl rfl ?_
    refine gop (y_assign (v := .int _ _) rfl) rfl rfl rfl ?_
    refine gop (y_assign (v := .bool _) rfl) rfl rfl rfl ?_
    refine gops_nil ?_
    refine hN4 _ _ ?_
    refine gT [box rg _, rowl _ _ _ _ _ _, fr] rfl ?_
    refine gfrom [(4, .int _ _), (5, .bool _)] ⟨rfl, rfl, trivial⟩ fun σ => ?_
    refine gret fun w1 hM => ?_
    refine ⟨_, res2 rfl (rt (v := .int _ _) rfl) (rt (v := .bool _) rfl), ?_⟩
    exact ⟨x14, b14, B14, bc14, o14, a14, code14, rfl, hp14, weak_take (T' := [_, _, fr]) rfl _ hM⟩
  · 
    replace hc12 := of_decide_eq_false hc12
    have hlv2 : lv < 2 := by omega
    have hR0 : (rd s.size (n + 1) lv none ts) = bindR (rd s.size n (lv + 1) none ts) fun t us => rd s.size n lv (some t) us := by rw [rd, if_neg (by omega)]
    refine gskip ?_
    refine hN2 _ _ ?_
    refine gfrom [(0, .pointer (some ⟨rg, 0, none⟩)), (1, .int _ _)] ⟨rfl, rfl, trivial⟩ fun σ => ?_
    refine gseq fun N5 hN5 => ?_
    refine greg ?_
    refine gop (y_assign (v := .string _) rfl) rfl rfl rfl ?_
    refine gop (y_assign (v := .int _ _) rfl) rfl rfl rfl ?_
    refine gops_nil ?_
    refine hN5 _ _ ?_
    refine gfrom [(0, .pointer (some ⟨rg, 0, none⟩)), (1, .int _ _), (6, .string _), (7, .int _ _)] ⟨rfl, rfl, rfl, rfl, trivial⟩ fun σ => ?_
    refine gseq fun N6 hN6 => ?_
    refine gfrom [(0, .pointer (some ⟨rg, 0, none⟩)), (1, .int _ _), (6, .string _), (7, .int _ _)] ⟨rfl, rfl, rfl, rfl, trivial⟩ fun σ => ?_
    refine gcut3 (Lf := [(0, .pointer (some ⟨rg, 0, none⟩)), (1, .int _ _)]) (G := Unit) (fun g => True) (fun g => [(6, .string (signL lv)), (7, .int .i64 (kindL lv))]) (fun g => []) ⟨rfl, rfl, trivial⟩ ?_ ?_
    ·
      refine gseq fun N7 hN7 => ?_
      refine greg ?_
      refine gop (y_move (v := .int _ _) rfl) rfl rfl rfl ?_
      refine gop (y_eql rfl rfl) rfl rfl rfl ?_
      refine gops_nil ?_
      refine hN7 _ _ ?_
      refine gfrom [(0, .pointer (some ⟨rg, 0, none⟩)), (1, .int _ _), (6, .string _), (7, .int _ _), (18, .bool _)] ⟨rfl, rfl, rfl, rfl, rfl, trivial⟩ fun σ => ?_
      refine gcond (b := _) rfl (fun hc18 => ?_) (fun hc18 => ?_)
      · 
        replace hc18 := of_decide_eq_true hc18
        refine greg ?_
        refine gop (y_assign (v := .string _) rfl) rfl rfl rfl ?_
        refine gop (y_assign (v := .int _ _) rfl) rfl rfl rfl ?_
        refine gops_nil ?_
        refine gcut3_end (()) (trivial) ⟨(congrArg Value.string (by first | (obtain rfl : lv = 1 := (by omega); rfl) | (obtain rfl : lv = 0 := (by omega); rfl))), (congrArg (Value.int .i64) (by first | (obtain rfl : lv = 1 := (by omega); rfl) | (obtain rfl : lv = 0 := (by omega); rfl))), trivial⟩ ⟨rfl, rfl, trivial⟩ ⟨_, rfl⟩
      · 
        replace hc18 := of_decide_eq_false hc18
        refine gskip ?_
        refine gcut3_end (()) (trivial) ⟨(congrArg Value.string (by first | (obtain rfl : lv = 1 := (by omega); rfl) | (obtain rfl : lv = 0 := (by omega); rfl))), (congrArg (Value.int .i64) (by first | (obtain rfl : lv = 1 := (by omega); rfl) | (obtain rfl : lv = 0 := (by omega); rfl))), trivial⟩ ⟨rfl, rfl, trivial⟩ ⟨_, rfl⟩
    ·
      intro g hcut σ
      refine hN6 _ _ ?_
      refine gseq fun N8 hN8 => ?_
      refine greg ?_
      refine gop (y_move (v := .pointer (some ⟨rg, 0, none⟩)) rfl) rfl rfl rfl ?_
      refine gop (y_move (v := .int _ _) rfl) rfl rfl rfl ?_
      refine gop (y_add rfl rfl ⟨by omega, by omega⟩) rfl rfl rfl ?_
      refine gop_does2 0 1 (fun v r s1 G => ∃ x b B' bc' o' a' code', v = .tuple #[.int .i64 x, .bool b] ∧ r = box rg (.cells #[.slice B' o'.length bc', .string s, .int .i64 ((a' : Nat)), .int .i64 ((nextW s (a') : Nat)), .int .i64 code'] 60) ∧ s1 = rowl pnCells w0.heap.size 47 4 (.slice B' (o').length bc') (o') ∧ G = [] ∧ POK s (rd s.size n (lv + 1) none ts) (o) code x b o' a' code') (e_call (vs := [.pointer (some ⟨rg, 0, none⟩), .int _ _]) Tryd.func31 rfl (by kernel_rfl) rfl) rfl rfl rfl (fun w fr1 hfr hM => (hLi n (Nat.le_refl _) (lv + 1) _ w _ _ _ o fr1 _ ts (by omega) (by omega) (by omega) hrs (by omega) hM).mono fun _ _ ⟨x, b, B', bc', o', a', code', h1, h2, h3⟩ => ⟨_, _, _, [], h1, ⟨x, b, B', bc', o', a', code', rfl, rfl, rfl, rfl, h2⟩, h3⟩) rfl rfl rfl ?_
      rintro _ _ _ _ ⟨x23, b23, B23, bc23, o23, a23, code23, rfl, rfl, rfl, rfl, hp23⟩
      refine gop (y_move (v := .tuple #[.int _ _, .bool _]) rfl) rfl rfl rfl ?_
      refine gop (y_extract (v := .int _ _) rfl rfl) rfl rfl rfl ?_
      refine gop (y_extract (v := .bool _) rfl rfl) rfl rfl rfl ?_
      refine gop (y_assign (v := .int _ _) rfl) rfl rfl rfl ?_
      refine gop (y_assign (v := .bool _) rfl) rfl rfl rfl ?_
      refine gops_nil ?_
      refine hN8 _ _ ?_
      refine gT [box rg _, rowl _ _ _ _ _ _, fr] rfl ?_
      refine gfrom [(0, .pointer (some ⟨rg, 0, none⟩)), (1, .int _ _), (6, .string _), (7, .int _ _), (8, .int _ _), (9, .bool _)] ⟨rfl, rfl, rfl, rfl, rfl, rfl, trivial⟩ fun σ => ?_
      refine gseq fun N9 hN9 => ?_
      refine gblock ?_
      refine gfrom2 [(8, .int _ _), (9, .bool _)] [(0, .pointer (some ⟨rg, 0, none⟩)), (1, .int _ _), (6, .string _), (7, .int _ _)] ⟨rfl, rfl, trivial⟩ ⟨rfl, rfl, rfl, rfl, trivial⟩ fun σ => ?_
      refine gloop2 (G := Nat × Int × Bool × Option Addr × Nat × List PN × Nat × Int) (fun (m, x, b, B, bc, o1, a1, code1) => LI s lv n (rd s.size (n + 1) lv none ts) o code m x b o1 a1 code1) (fun (m, x, b, B, bc, o1, a1, code1) => m) (fun (m, x, b, B, bc, o1, a1, code1) => [(8, .int .i64 x), (9, .bool b)]) (fun (m, x, b, B, bc, o1, a1, code1) => [(0, box rg (.cells #[.slice B o1.length bc, .string s, .int .i64 ((a1 : Nat)), .int .i64 ((nextW s (a1) : Nat)), .int .i64 code1] 60)), (1, rowl pnCells w0.heap.size 47 4 (.slice B (o1).length bc) (o1))]) ((n, x23, b23, B23, bc23, o23, a23, code23)) ?h0 ⟨rfl, rfl, trivial⟩ ⟨rfl, rfl, rfl, rfl, trivial⟩ rfl ?round
      case h0 => exact li_start hR0 hlv2 (by omega) hol hp23
      case round =>
        rintro ⟨m, x, b, B, bc, o1, a1, code1⟩ hli σ
        replace hli : LI s lv n (rd s.size (n + 1) lv none ts) o code m x b o1 a1 code1 := hli
        refine gT [box rg _, rowl _ _ _ _ _ _, fr] rfl ?_
        refine gseq fun N10 hN10 => ?_
        refine gseq fun N11 hN11 => ?_
        refine greg ?_
        refine gop (y_move (v := .bool _) rfl) rfl rfl rfl ?_
        refine gop (y_move (v := .bool _) rfl) rfl rfl rfl ?_
        refine gop_if (want := true) rfl rfl rfl rfl rfl rfl (fun hg27 => ?_) (fun hg27 => ?_)
        · 
          have hg27d := hg27
          obtain ⟨t, us, rfl, rfl, hru, rfl, hRm, hfm, hlen⟩ := li_ok hli (by assumption)
          refine gop (y_bare (y_move (v := .pointer (some ⟨rg, 0, none⟩)) rfl)) rfl rfl rfl ?_
          refine gop_on rfl rfl rfl rfl hg27 ?_
          refine gop (y_bare (y_move (v := .string _) rfl)) rfl rfl rfl ?_
          refine gop_on rfl rfl rfl rfl hg27 ?_
          refine gop_does1 0 (fun v r G => ∃ a' ts', v = .bool (decide (hd us = signL lv)) ∧ r = box rg (.cells #[.slice B (o ++ post t o.length).length bc, .string s, .int .i64 ((a' : Nat)), .int .i64 ((nextW s (a') : Nat)), .int .i64 code] 60) ∧ RS s a' ts' ∧ ts' = (if hd us = signL lv then us.tail else us) ∧ G = []) (e_call (vs := [.pointer (some ⟨rg, 0, none⟩), .string _]) Tryd.func45 rfl (by kernel_rfl) rfl) rfl (fun w fr1 hfr hM => (rdTake_any _ w rg _ _ _ s _ fr1 hs _ us hru _ hM).mono fun _ _ ⟨a', ts', h1, h2, h3, h4⟩ => ⟨_, _, [], h1, ⟨a', ts', rfl, rfl, h2, h3, rfl⟩, h4⟩) rfl rfl rfl ?_
          rintro _ _ _ ⟨a30, ts30, rfl, rfl, hrs30, hts30, rfl⟩
          refine gop (y_pick_t (v := .bool _) rfl hg27 rfl) rfl rfl rfl ?_
          refine gops_nil ?_
          refine hN11 _ _ ?_
          refine gT [box rg _, rowl _ _ _ _ _ _, fr] rfl ?_
          refine gfrom [(0, .pointer (some ⟨rg, 0, none⟩)), (1, .int _ _), (6, .string _), (7, .int _ _), (8, .int _ _), (9, .bool _), (31, .bool _)] ⟨rfl, rfl, rfl, rfl, rfl, rfl, rfl, trivial⟩ fun σ => ?_
          refine gcond (b := _) rfl (fun hc31 => ?_) (fun hc31 => ?_)
          · 
            have hsg : hd us = signL lv := by simpa using hc31
            obtain ⟨mm, rfl⟩ : ∃ k, m = k + 1 := ⟨m - 1, by omega⟩
            have ht30 : ts30 = us.tail := by rw [hts30, if_pos hsg]
            have hpl := hd_pos (ts := us) (by rw [hsg]; exact sign_ne lv)
            have htl30 : ts30.length + 1 = us.length := by rw [ht30]; exact hpl
            have hmn := hli.1
            have htp := t.pos
            have hRm1 : (rd s.size (n + 1) lv none ts) = bindR (rd s.size mm (lv + 1) none ts30) fun t2 ts' => rd s.size mm lv (some (.bin (kindL lv) t t2)) ts' := by rw [hRm, rd, if_pos hsg, ht30]
            refine gskip ?_
            refine hN10 _ _ ?_
            refine gfrom [(0, .pointer (some ⟨rg, 0, none⟩)), (1, .int _ _), (6, .string _), (7, .int _ _), (8, .int _ _)] ⟨rfl, rfl, rfl, rfl, rfl, trivial⟩ fun σ => ?_
            refine gblock ?_
            refine gseq fun N12 hN12 => ?_
            refine greg ?_
            refine gop (y_assign (v := .int _ _) rfl) rfl rfl rfl ?_
            refine gops_nil ?_
            refine hN12 _ _ ?_
            refine gfrom [(0, .pointer (some ⟨rg, 0, none⟩)), (1, .int _ _), (6, .string _), (7, .int _ _), (8, .int _ _)] ⟨rfl, rfl, rfl, rfl, rfl, trivial⟩ fun σ => ?_
            refine gseq fun N13 hN13 => ?_
            refine greg ?_
            refine gop (y_move (v := .pointer (some ⟨rg, 0, none⟩)) rfl) rfl rfl rfl ?_
            refine gop (y_move (v := .int _ _) rfl) rfl rfl rfl ?_
            refine gop (y_add rfl rfl ⟨by omega, by omega⟩) rfl rfl rfl ?_
            refine gop_does2 0 1 (fun v r s1 G => ∃ x b B' bc' o' a' code', v = .tuple #[.int .i64 x, .bool b] ∧ r = box rg (.cells #[.slice B' o'.length bc', .string s, .int .i64 ((a' : Nat)), .int .i64 ((nextW s (a') : Nat)), .int .i64 code'] 60) ∧ s1 = rowl pnCells w0.heap.size 47 4 (.slice B' (o').length bc') (o') ∧ G = [] ∧ POK s (rd s.size mm (lv + 1) none ts30) (o ++ post t o.length) code x b o' a' code') (e_call (vs := [.pointer (some ⟨rg, 0, none⟩), .int _ _]) Tryd.func31 rfl (by kernel_rfl) rfl) rfl rfl rfl (fun w fr1 hfr hM => (hLi mm (by omega) (lv + 1) _ w _ _ _ (o ++ post t o.length) fr1 _ ts30 (by omega) (by omega) (by omega) hrs30 (by rw [app_len]; omega) hM).mono fun _ _ ⟨x, b, B', bc', o', a', code', h1, h2, h3⟩ => ⟨_, _, _, [], h1, ⟨x, b, B', bc', o', a', code', rfl, rfl, rfl, rfl, h2⟩, h3⟩) rfl rfl rfl ?_
            rintro _ _ _ _ ⟨x36, b36, B36, bc36, o36, a36, code36, rfl, rfl, rfl, rfl, hp36⟩
            refine gop (y_move (v := .tuple #[.int _ _, .bool _]) rfl) rfl rfl rfl ?_
            refine gop (y_extract (v := .int _ _) rfl rfl) rfl rfl rfl ?_
            refine gop (y_extract (v := .bool _) rfl rfl) rfl rfl rfl ?_
            refine gop (y_assign (v := .int _ _) rfl) rfl rfl rfl ?_
            refine gop (y_assign (v := .bool _) rfl) rfl rfl rfl ?_
            refine gops_nil ?_
            refine hN13 _ _ ?_
            refine gT [box rg _, rowl _ _ _ _ _ _, fr] rfl ?_
            refine gfrom [(0, .pointer (some ⟨rg, 0, none⟩)), (1, .int _ _), (6, .string _), (7, .int _ _), (8, .int _ _), (9, .bool _), (10, .int _ _)] ⟨rfl, rfl, rfl, rfl, rfl, rfl, rfl, trivial⟩ fun σ => ?_
            refine gseq fun N14 hN14 => ?_
            refine greg ?_
            refine gop (y_move (v := .bool _) rfl) rfl rfl rfl ?_
            refine gops_nil ?_
            refine hN14 _ _ ?_
            refine gfrom [(0, .pointer (some ⟨rg, 0, none⟩)), (1, .int _ _), (6, .string _), (7, .int _ _), (8, .int _ _), (9, .bool _), (10, .int _ _), (39, .bool _)] ⟨rfl, rfl, rfl, rfl, rfl, rfl, rfl, rfl, trivial⟩ fun σ => ?_
            refine gcond (b := _) rfl (fun hc39 => ?_) (fun hc39 => ?_)
            · 
              have hb36 : b36 = true := hc39
              obtain ⟨t36, us36, hR36, hx36, ho36, hrt36, hcd36⟩ := pok_yes hp36 (by first | assumption | simpa using hc39)
              have hsz36 : t36.size + us36.length ≤ ts30.length := (rd_ok s.size mm (lv + 1) none ts30 t36 us36 (fun _ h => by cases h) hR36).2
              subst hx36
              subst ho36
              obtain rfl : code = code36 := hcd36.symm
              have hR2 : (rd s.size (n + 1) lv none ts) = rd s.size mm lv (some (.bin (kindL lv) t t36)) us36 := by rw [hRm1, hR36]; rfl
              have htp36 := t36.pos
              have hal := app_len o t
              refine greg ?_
              refine gop (y_move (v := .pointer (some ⟨rg, 0, none⟩)) rfl) rfl rfl rfl ?_
              refine gop (y_nilCheck rfl) rfl rfl rfl ?_
              refine gop (y_fieldAddr_box fa60_0 rfl) rfl rfl rfl ?_
              refine gop (y_move (v := .int _ _) rfl) rfl rfl rfl ?_
              refine gop (y_move (v := .int _ _) rfl) rfl rfl rfl ?_
              refine gop (y_move (v := .int _ _) rfl) rfl rfl rfl ?_
              refine gop (y_build (vs := [(0, .int _ _), (2, .int _ _), (3, .int _ _)]) (cells := #[_, .int .i64 0, _, _]) rfl (bd47_0_2_3 _ _ _)) rfl rfl rfl ?_
              refine gop_does2 0 1 (fun v r s1 G => ∃ B' bc', v = .int .i64 (((o ++ post t o.length) ++ post t36 (o ++ post t o.length).length).length : Nat) ∧ r = box rg (.cells #[.slice B' ((o ++ post t o.length) ++ post t36 (o ++ post t o.length).length ++ [(⟨kindL lv, 0, ((o.length + t.size : Nat) : Int) - 1, (((o ++ post t o.length).length + t36.size : Nat) : Int) - 1⟩ : PN)]).length bc', .string s, .int .i64 ((a36 : Nat)), .int .i64 ((nextW s (a36) : Nat)), .int .i64 code] 60) ∧ s1 = rowl pnCells w0.heap.size 47 4 (.slice B' ((o ++ post t o.length) ++ post t36 (o ++ post t o.length).length ++ [(⟨kindL lv, 0, ((o.length + t.size : Nat) : Int) - 1, (((o ++ post t o.length).length + t36.size : Nat) : Int) - 1⟩ : PN)]).length bc') ((o ++ post t o.length) ++ post t36 (o ++ post t o.length).length ++ [(⟨kindL lv, 0, ((o.length + t.size : Nat) : Int) - 1, (((o ++ post t o.length).length + t36.size : Nat) : Int) - 1⟩ : PN)]) ∧ G = []) (e_call (vs := [.pointer _, .agg #[_, _, _, _]]) Tryd.func41 rfl (by kernel_rfl) rfl) rfl rfl rfl (fun w fr1 hfr hM => (polAdd5_any _ w rg _ _ s _ _ _ ((o ++ post t o.length) ++ post t36 (o ++ post t o.length).length) fr1 hM (by rw [app_len, app_len]; omega) ((⟨kindL lv, 0, ((o.length + t.size : Nat) : Int) - 1, (((o ++ post t o.length).length + t36.size : Nat) : Int) - 1⟩ : PN))).mono fun _ _ ⟨B', bc', h1, h2⟩ => ⟨_, _, _, [], h1, ⟨B', bc', rfl, rfl, rfl, rfl⟩, h2⟩) rfl rfl rfl ?_
              rintro _ _ _ _ ⟨B47, bc47, rfl, rfl, rfl, rfl⟩
              refine gop (y_assign (v := .int _ _) rfl) rfl rfl rfl ?_
              refine gops_nil ?_
              refine gnext2 ((mm, (((o ++ post t o.length) ++ post t36 (o ++ post t o.length).length).length : Nat), b36, B47, bc47, (o ++ post t o.length) ++ post t36 (o ++ post t o.length).length ++ [(⟨kindL lv, 0, ((o.length + t.size : Nat) : Int) - 1, (((o ++ post t o.length).length + t36.size : Nat) : Int) - 1⟩ : PN)], a36, code)) (by show mm < mm + 1; omega) (⟨by omega, .inr ⟨hb36, .bin (kindL lv) t t36, us36, by rw [app_len, app_len, size_bin]; omega, post_bin_app o (kindL lv) t t36, hrt36, rfl, hR2, by omega, by rw [size_bin]; omega⟩⟩) ⟨rfl, rfl, trivial⟩ ⟨rfl, rfl, rfl, rfl, trivial⟩ ⟨_, rfl⟩
            · 
              have hb36 : b36 = false := by simpa using hc39
              obtain ⟨hR36, ho36⟩ := pok_no hp36 hb36
              have hR2 : (rd s.size (n + 1) lv none ts) = .bad code36 a36 := by rw [hRm1, hR36]; rfl
              refine gskip ?_
              refine gnext2 ((mm, _, b36, B36, bc36, o36, a36, code36)) (by show mm < mm + 1; omega) (⟨by omega, .inl ⟨hb36, hR2, ho36⟩⟩) ⟨rfl, rfl, trivial⟩ ⟨rfl, rfl, rfl, rfl, trivial⟩ ⟨_, rfl⟩
          · 
            refine gexit ?_
            refine hN9 _ _ ?_
            refine gfrom [(8, .int _ _), (9, .bool _)] ⟨rfl, rfl, trivial⟩ fun σ => ?_
            refine gseq fun N15 hN15 => ?_
            refine greg ?_
            refine gop (y_move (v := .int _ _) rfl) rfl rfl rfl ?_
            refine gop (y_move (v := .bool _) rfl) rfl rfl rfl ?_
            refine gop (y_assign (v := .int _ _) rfl) rfl rfl rfl ?_
            refine gop (y_assign (v := .bool _) rfl) rfl rfl rfl ?_
            refine gops_nil ?_
            refine hN15 _ _ ?_
            refine gfrom [(4, .int _ _), (5, .bool _)] ⟨rfl, rfl, trivial⟩ fun σ => ?_
            refine gret fun w1 hM => ?_
            refine ⟨_, res2 rfl (rt (v := .int _ _) rfl) (rt (v := .bool _) rfl), ?_⟩
            first
            | (have hne : ¬ hd us = signL lv := by simpa using hc31
               have hRx : (rd s.size (n + 1) lv none ts) = .ok t us := by
                 obtain ⟨mm, rfl⟩ : ∃ k, m = k + 1 := ⟨m - 1, by omega⟩
                 rw [hRm, rd, if_neg hne]
               obtain rfl : us = ts30 := by rw [hts30, if_neg hne]
               exact ⟨_, _, B, bc, _, _, _, rfl, pok_ok2 (by assumption) hRx rfl rfl hrs30, weak_take (T' := [_, _, fr]) rfl _ hM⟩)
            | (obtain ⟨hRb, hob⟩ := li_bad hli (by assumption)
               exact ⟨_, _, _, _, _, _, _, rfl, pok_bad2 (by assumption) hRb hob, weak_take (T' := [_, _, fr]) rfl _ hM⟩)
        · 
          have hg27d := hg27
          refine gop_off rfl rfl rfl rfl hg27 rfl rfl ?_
          refine gop_off rfl rfl rfl rfl hg27 rfl rfl ?_
          refine gop (y_pick_f (v := .bool _) rfl hg27 rfl) rfl rfl rfl ?_
          refine gops_nil ?_
          refine hN11 _ _ ?_
          refine gfrom [(0, .pointer (some ⟨rg, 0, none⟩)), (1, .int _ _), (6, .string _), (7, .int _ _), (8, .int _ _), (9, .bool _), (31, .bool _)] ⟨rfl, rfl, rfl, rfl, rfl, rfl, rfl, trivial⟩ fun σ => ?_
          refine gcond (b := _) rfl (fun hc31 => ?_) (fun hc31 => ?_)
          · 
            cases hc31
          · 
            refine gexit ?_
            refine hN9 _ _ ?_
            refine gfrom [(8, .int _ _), (9, .bool _)] ⟨rfl, rfl, trivial⟩ fun σ => ?_
            refine gseq fun N16 hN16 => ?_
            refine greg ?_
            refine gop (y_move (v := .int _ _) rfl) rfl rfl rfl ?_
            refine gop (y_move (v := .bool _) rfl) rfl rfl rfl ?_
            refine gop (y_assign (v := .int _ _) rfl) rfl rfl rfl ?_
            refine gop (y_assign (v := .bool _) rfl) rfl rfl rfl ?_
            refine gops_nil ?_
            refine hN16 _ _ ?_
            refine gfrom [(4, .int _ _), (5, .bool _)] ⟨rfl, rfl, trivial⟩ fun σ => ?_
            refine gret fun w1 hM => ?_
            refine ⟨_, res2 rfl (rt (v := .int _ _) rfl) (rt (v := .bool _) rfl), ?_⟩
            first
            | (have hne : ¬ hd us = signL lv := by simpa using hc31
               have hRx : (rd s.size (n + 1) lv none ts) = .ok t us := by
                 obtain ⟨mm, rfl⟩ : ∃ k, m = k + 1 := ⟨m - 1, by omega⟩
                 rw [hRm, rd, if_neg hne]
               obtain rfl : us = ts30 := by rw [hts30, if_neg hne]
               exact ⟨_, _, B, bc, _, _, _, rfl, pok_ok2 (by assumption) hRx rfl rfl hrs30, weak_take (T' := [_, _, fr]) rfl _ hM⟩)
            | (obtain ⟨hRb, hob⟩ := li_bad hli (by assumption)
               exact ⟨_, _, _, _, _, _, _, rfl, pok_bad2 (by assumption) hRb hob, weak_take (T' := [_, _, fr]) rfl _ hM⟩)
end Go.Proofs.YtllblbkbglifjaaDoor
namespace Go.Proofs.YtllblbkbglifjaaDoor
open Go.RowKit Go.Cf
theorem rd_both (w0 : World) (s : ByteArray) (hs : s.size ≤ 200) (hL : LaidP w0) (rg : Nat) : ∀ n, (∀ m, m ≤ n → ListH w0 s rg m) ∧ FacH w0 s rg n
  | 0 => ⟨fun m hm lv vi w B bc code o fr a ts hlv hvi hfu => by omega, fun w B bc code o fr a ts hfu => by omega⟩
  | n + 1 => by
    obtain ⟨h1, h2⟩ := rd_both w0 s hs hL rg n
    have h3 := rdFactor_step w0 s hs hL rg n h2 (h1 n (Nat.le_refl _))
    refine ⟨fun m hm => ?_, h3⟩
    rcases Nat.lt_or_ge n m with h | h
    · obtain rfl : m = n + 1 := by omega
      exact rdList_step w0 s hs rg n h3 h1
    · exact h1 m h
end Go.Proofs.YtllblbkbglifjaaDoor
namespace Go.Proofs.YtllblbkbglifjaaDoor
open Go.RowKit Go.Cf
set_option maxRecDepth 10000
theorem bd60_1 (x1 : ByteArray) : Tryd.prog.built 60 [(1, .string x1)] = some #[.slice none 0 0, .string x1, .int .i64 0, .int .i64 0, .int .i64 0] := by kernel_rfl
set_option maxHeartbeats 8000000 in
theorem polParse_any (w : World) (s : ByteArray) (hL : LaidP w) (hs0 : s.size ≤ 9223372036854775807) :
    Calls Tryd.prog 19 #[.string s] w fun e w' => ∃ pv, e = .returned (.tuple #[.agg #[pv], fv (parR s).1]) ∧ Below w.heap.size w w' ∧ NewL 4 pnCells (parR s).2 w.heap.size w' pv := by
  refine gcalls Tryd.func19 rfl Tryd.ntmps19 (Nat.le_of_ble_eq_true rfl) ?_
  refine gfrom [(0, .string s)] ⟨rfl, trivial⟩ fun σ => ?_
  refine gseq fun N1 hN1 => ?_
  refine greg ?_
  refine gop_alloc (cs := #[.slice none 0 0]) Tryd.zeroValue24 rfl rfl (fun b2 hb2 => ?_)
  refine gop_alloc (cs := #[.int .i64 0, .int .i64 0]) Tryd.zeroValue28 rfl rfl (fun b3 hb3 => ?_)
  refine gops_nil ?_
  refine hN1 _ _ ?_
  refine gT [box b2 _, box b3 _] rfl ?_
  refine gfrom [(0, .string s), (2, .pointer _), (3, .pointer _)] ⟨rfl, rfl, rfl, trivial⟩ fun σ => ?_
  refine gseq fun N2 hN2 => ?_
  refine gseq fun N3 hN3 => ?_
  refine greg ?_
  refine gop (y_move (v := .string s) rfl) rfl rfl rfl ?_
  refine gop (y_lens Tryd.underlying9 rfl) rfl rfl rfl ?_
  refine gop (y_gtr rfl rfl) rfl rfl rfl ?_
  refine gops_nil ?_
  refine hN3 _ _ ?_
  refine gfrom [(0, .string s), (2, .pointer _), (3, .pointer _), (9, .bool _)] ⟨rfl, rfl, rfl, rfl, trivial⟩ fun σ => ?_
  refine gcond (b := _) rfl (fun hc9 => ?_) (fun hc9 => ?_)
  · 
    replace hc9 := of_decide_eq_true hc9
    have hP : parR s = (⟨2, -1⟩, []) := by rw [parR, if_pos (by omega)]
    refine gseq fun N4 hN4 => ?_
    refine greg ?_
    refine gop (y_build (vs := []) (cells := #[.slice none 0 0]) rfl bd24_) rfl rfl rfl ?_
    refine gop (y_build (vs := [(0, _), (1, _)]) (cells := #[_, _]) rfl (bd28_0_1 _ _)) rfl rfl rfl ?_
    refine gop_store 0 (v := .agg #[_]) (cs' := #[_]) rfl rfl Tryd.sizeOf24 rfl rfl rfl rfl (Nat.le_of_ble_eq_true rfl) rfl rfl ?_
    refine gop_store 1 (v := .agg #[_, _]) (cs' := #[_, _]) rfl rfl Tryd.sizeOf28 rfl rfl rfl rfl (Nat.le_of_ble_eq_true rfl) rfl rfl ?_
    refine gops_nil ?_
    refine hN4 _ _ ?_
    refine gT [box b2 _, box b3 _] rfl ?_
    refine gfrom [(2, .pointer _), (3, .pointer _)] ⟨rfl, rfl, trivial⟩ fun σ => ?_
    refine gret fun w1 hM => ?_
    refine ⟨_, res2 rfl (rc 0 (cs := [_]) hM rfl rfl Tryd.isAgg24 Tryd.sizeOf24 rfl) (rc 1 (cs := [_, _]) hM rfl rfl Tryd.isAgg28 Tryd.sizeOf28 rfl), ?_⟩
    rw [hP]
    exact ⟨_, rfl, hM.low, newL_nil⟩
  · 
    replace hc9 := of_decide_eq_false hc9
    have hs : s.size ≤ 200 := by omega
    refine gskip ?_
    refine hN2 _ _ ?_
    refine gfrom [(0, .string s), (2, .pointer _), (3, .pointer _)] ⟨rfl, rfl, rfl, trivial⟩ fun σ => ?_
    refine gseq fun N5 hN5 => ?_
    refine greg ?_
    refine gop (y_move (v := .string s) rfl) rfl rfl rfl ?_
    refine gop (y_build (vs := [(1, .string s)]) (cells := #[.slice none 0 0, _, .int .i64 0, .int .i64 0, .int .i64 0]) rfl (bd60_1 _)) rfl rfl rfl ?_
    refine gop_alloc (cs := #[.slice none 0 0, .string .empty, .int .i64 0, .int .i64 0, .int .i64 0]) Tryd.zeroValue60 rfl rfl (fun b4 hb4 => ?_)
    refine gop_store 2 (v := .agg #[_, _, _, _, _]) (cs' := #[_, _, _, _, _]) rfl rfl Tryd.sizeOf60 rfl rfl rfl rfl (Nat.le_of_ble_eq_true rfl) rfl rfl ?_
    refine gops_nil ?_
    refine hN5 _ _ ?_
    refine gT [box b2 _, box b3 _, box b4 _] rfl ?_
    refine gfrom [(0, .string s), (2, .pointer _), (3, .pointer _), (4, .pointer _)] ⟨rfl, rfl, rfl, rfl, trivial⟩ fun σ => ?_
    refine gseq fun N6 hN6 => ?_
    refine greg ?_
    refine gop_does1 2 (fun v r G => v = .tuple #[] ∧ r = box b4 (.cells #[.slice none 0 0, .string s, .int .i64 ((skipW s 0 : Nat)), .int .i64 ((nextW s (skipW s 0) : Nat)), .int .i64 0] 60) ∧ G = []) (e_call (vs := [.pointer _]) Tryd.func30 rfl (by kernel_rfl) rfl) rfl (fun w fr1 hfr hM => (rdScan_any _ w b4 _ _ _ s _ fr1 hs _ _ 0 rfl (Nat.zero_le _) hM).mono fun _ _ ⟨h1, h2⟩ => ⟨_, _, [], h1, ⟨rfl, rfl, rfl⟩, h2⟩) rfl rfl rfl ?_
    rintro _ _ _ ⟨rfl, rfl, rfl⟩
    refine gops_nil ?_
    refine hN6 _ _ ?_
    refine gT [box b2 _, box b3 _, box b4 _] rfl ?_
    refine gfrom [(0, .string s), (2, .pointer _), (3, .pointer _), (4, .pointer _)] ⟨rfl, rfl, rfl, rfl, trivial⟩ fun σ => ?_
    refine gseq fun N7 hN7 => ?_
    refine greg ?_
    refine gops_nilrow pnCells 47 4 ?_
    refine gop_does2 2 3 (fun v r s1 G => ∃ x b B' bc' o' a' code', v = .tuple #[.int .i64 x, .bool b] ∧ r = box b4 (.cells #[.slice B' o'.length bc', .string s, .int .i64 ((a' : Nat)), .int .i64 ((nextW s (a') : Nat)), .int .i64 code'] 60) ∧ s1 = rowl pnCells w.heap.size 47 4 (.slice B' (o').length bc') (o') ∧ G = [] ∧ POK s (rd s.size (fuelOf s) 0 none (tks s 0)) ([]) 0 x b o' a' code') (e_call (vs := [.pointer _, _]) Tryd.func31 rfl (by kernel_rfl) rfl) rfl rfl rfl (fun w fr1 hfr hM => ((rd_both _ s hs hL b4 (fuelOf s)).1 _ (Nat.le_refl _) 0 _ w _ _ _ [] fr1 _ (tks s 0) (by omega) rfl (by unfold fuelOf; omega) (RS.start s) (by have h9 := tks_len s _ 0 rfl; simp; omega) hM).mono fun _ _ ⟨x, b, B', bc', o', a', code', h1, h2, h3⟩ => ⟨_, _, _, [], h1, ⟨x, b, B', bc', o', a', code', rfl, rfl, rfl, rfl, h2⟩, h3⟩) rfl rfl rfl ?_
    rintro _ _ _ _ ⟨x16, b16, B16, bc16, o16, a16, code16, rfl, rfl, rfl, rfl, hp16⟩
    refine gops_fact (fun w hM => row_form (hM.ok _ (List.mem_of_getElem? (i := 3) rfl))) ?_
    rintro ⟨A16, c16, hv16, hc16, hm16, hn16⟩
    simp only [Value.slice.injEq] at hv16
    obtain ⟨rfl, -, rfl⟩ := hv16
    refine gop (y_move (v := .tuple #[.int _ _, .bool _]) rfl) rfl rfl rfl ?_
    refine gop (y_extract (v := .int _ _) rfl rfl) rfl rfl rfl ?_
    refine gop (y_extract (v := .bool _) rfl rfl) rfl rfl rfl ?_
    refine gop (y_assign (v := .int _ _) rfl) rfl rfl rfl ?_
    refine gop (y_assign (v := .bool _) rfl) rfl rfl rfl ?_
    refine gops_nil ?_
    refine hN7 _ _ ?_
    refine gT [box b2 _, box b3 _, box b4 _, rowl _ _ _ _ _ _] rfl ?_
    refine gfrom [(0, .string s), (2, .pointer _), (3, .pointer _), (4, .pointer _), (6, .bool _)] ⟨rfl, rfl, rfl, rfl, rfl, trivial⟩ fun σ => ?_
    refine gseq fun N8 hN8 => ?_
    refine gfrom [(0, .string s), (2, .pointer _), (3, .pointer _), (4, .pointer _), (6, .bool _)] ⟨rfl, rfl, rfl, rfl, rfl, trivial⟩ fun σ => ?_
    refine gcut3 (Lf := [(2, .pointer _), (3, .pointer _), (4, .pointer _)]) (G := Bool × Int × Nat) (fun (b, cd, ac) => (b = false ∧ parR s = (⟨cd, ac⟩, [])) ∨ (b = true ∧ ∃ t : Tr, t.ok ∧ t.size ≤ 1000 ∧ o16 = post t 0 ∧ parR s = madeR t)) (fun (b, cd, ac) => [(6, .bool b)]) (fun (b, cd, ac) => [(2, box b4 (.cells #[.slice B16 o16.length bc16, .string s, .int .i64 ((ac : Nat)), .int .i64 ((nextW s (ac) : Nat)), .int .i64 cd] 60))]) ⟨rfl, rfl, rfl, trivial⟩ ?_ ?_
    ·
      refine gseq fun N9 hN9 => ?_
      refine greg ?_
      refine gop (y_move (v := .bool _) rfl) rfl rfl rfl ?_
      refine gop (y_move (v := .bool _) rfl) rfl rfl rfl ?_
      refine gop_if (want := true) rfl rfl rfl rfl rfl rfl (fun hg20 => ?_) (fun hg20 => ?_)
      · 
        have hg20d := hg20
        have hb16 : b16 = true := by assumption
        obtain ⟨t, us, hR, hx, ho, hrt, -⟩ := pok_yes hp16 hb16
        obtain ⟨hto, hts⟩ := rd_ok s.size _ _ none _ _ _ (fun _ h => by cases h) hR
        have htl := tks_len s _ 0 rfl
        simp only [Option.map, Option.getD] at hts
        refine gop (y_bare (y_fieldAddr_box fa60_2 rfl)) rfl rfl rfl ?_
        refine gop_on rfl rfl rfl rfl hg20 ?_
        refine gop (y_bare (y_load Tryd.isAgg3 rfl (cell_box 2 rfl rfl))) rfl rfl rfl ?_
        refine gop_on rfl rfl rfl rfl hg20 ?_
        refine gop (y_bare (y_move (v := .string s) rfl)) rfl rfl rfl ?_
        refine gop_on rfl rfl rfl rfl hg20 ?_
        refine gop (y_bare (y_lens Tryd.underlying9 rfl)) rfl rfl rfl ?_
        refine gop_on rfl rfl rfl rfl hg20 ?_
        refine gop (y_bare (y_lss rfl rfl)) rfl rfl rfl ?_
        refine gop (y_pick_t (v := .bool _) rfl hg20 rfl) rfl rfl rfl ?_
        refine gops_nil ?_
        refine hN9 _ _ ?_
        refine gfrom [(2, .pointer _), (3, .pointer _), (4, .pointer _), (6, .bool _), (26, .bool _)] ⟨rfl, rfl, rfl, rfl, rfl, trivial⟩ fun σ => ?_
        refine gcond (b := _) rfl (fun hc26 => ?_) (fun hc26 => ?_)
        · 
          replace hc26 := of_decide_eq_true hc26
          have hus : us ≠ [] := fun h => hrt.nil.1 h (by omega)
          have hP : parR s = (⟨1, a16⟩, []) := by
            rw [parR, if_neg (by omega), hR]
            show (if us = [] then madeR t else (⟨1, pos s.size us⟩, [])) = _
            rw [if_neg hus, hrt.pos]
          refine greg ?_
          refine gop_does1 2 (fun v r G => v = .tuple #[.int .i64 0, .bool false] ∧ r = box b4 (.cells #[.slice B16 o16.length bc16, .string s, .int .i64 ((a16 : Nat)), .int .i64 ((nextW s (a16) : Nat)), .int .i64 1] 60) ∧ G = []) (e_call (vs := [.pointer _, _]) Tryd.func32 rfl (by kernel_rfl) rfl) rfl (fun w fr1 hfr hM => (rdFail_any _ w b4 _ _ _ s _ _ _ fr1 1 hM).mono fun _ _ ⟨h1, h2⟩ => ⟨_, _, [], h1, ⟨rfl, rfl, rfl⟩, h2⟩) rfl rfl rfl ?_
          rintro _ _ _ ⟨rfl, rfl, rfl⟩
          refine gop (y_move (v := .tuple #[.int _ _, .bool _]) rfl) rfl rfl rfl ?_
          refine gop (y_extract (v := .int _ _) rfl rfl) rfl rfl rfl ?_
          refine gop (y_extract (v := .bool _) rfl rfl) rfl rfl rfl ?_
          refine gop (y_assign (v := .bool _) rfl) rfl rfl rfl ?_
          refine gops_nil ?_
          refine gcut3_end ((false, 1, a16)) (.inl ⟨rfl, hP⟩) ⟨rfl, trivial⟩ ⟨rfl, rfl, rfl, trivial⟩ ⟨_, rfl⟩
        · 
          replace hc26 := of_decide_eq_false hc26
          first
          | (have hP : parR s = madeR t := by
               rw [parR, if_neg (by omega), hR]
               show (if us = [] then madeR t else (⟨1, pos s.size us⟩, [])) = _
               rw [if_pos (hrt.nil.2 (by omega))])
          | skip
          refine gskip ?_
          refine gcut3_end ((b16, code16, a16)) (.inr ⟨hb16, t, hto, by omega, ho, hP⟩) ⟨rfl, trivial⟩ ⟨rfl, rfl, rfl, trivial⟩ ⟨_, rfl⟩
      · 
        have hg20d := hg20
        have hb16 : b16 = false := by assumption
        obtain ⟨hR, -⟩ := pok_no hp16 hb16
        have hP : parR s = (⟨code16, a16⟩, []) := by rw [parR, if_neg (by omega), hR]
        refine gop_off rfl rfl rfl rfl hg20 rfl rfl ?_
        refine gop_off rfl rfl rfl rfl hg20 rfl rfl ?_
        refine gop_off rfl rfl rfl rfl hg20 rfl rfl ?_
        refine gop_off rfl rfl rfl rfl hg20 rfl rfl ?_
        refine gop (y_pick_f (v := .bool _) rfl hg20 rfl) rfl rfl rfl ?_
        refine gops_nil ?_
        refine hN9 _ _ ?_
        refine gfrom [(2, .pointer _), (3, .pointer _), (4, .pointer _), (6, .bool _), (26, .bool _)] ⟨rfl, rfl, rfl, rfl, rfl, trivial⟩ fun σ => ?_
        refine gcond (b := _) rfl (fun hc26 => ?_) (fun hc26 => ?_)
        · 
          cases hc26
        · 
          first
          | (have hP : parR s = madeR t := by
               rw [parR, if_neg (by omega), hR]
               show (if us = [] then madeR t else (⟨1, pos s.size us⟩, [])) = _
               rw [if_pos (hrt.nil.2 (by omega))])
          | skip
          refine gskip ?_
          refine gcut3_end ((b16, code16, a16)) (.inl ⟨hb16, hP⟩) ⟨rfl, trivial⟩ ⟨rfl, rfl, rfl, trivial⟩ ⟨_, rfl⟩
    ·
      rintro ⟨b, cd, ac⟩ hcut σ
      refine hN8 _ _ ?_
      refine gseq fun N10 hN10 => ?_
      refine gseq fun N11 hN11 => ?_
      refine greg ?_
      refine gop (y_move (v := .bool _) rfl) rfl rfl rfl ?_
      refine gop (y_not rfl) rfl rfl rfl ?_
      refine gops_nil ?_
      refine hN11 _ _ ?_
      refine gT [box b2 _, box b3 _, box b4 _, rowl _ _ _ _ _ _] rfl ?_
      refine gfrom [(2, .pointer _), (3, .pointer _), (4, .pointer _), (32, .bool _)] ⟨rfl, rfl, rfl, rfl, trivial⟩ fun σ => ?_
      refine gcond (b := _) rfl (fun hc32 => ?_) (fun hc32 => ?_)
      · 
        replace hc32 := not_t hc32
        have hb : b = false := by simpa using hc32
        have hP : parR s = (⟨cd, ac⟩, []) := by
          rcases hcut with h9 | h9
          · exact h9.2
          · rw [hb] at h9; exact absurd h9.1 (by decide)
        refine gseq fun N12 hN12 => ?_
        refine greg_e1 [] [(0, room b2 24 1), (1, room b3 28 2)] (by kernel_rfl) ?_
        refine ge_take 0 (TK := [room b2 24 1, room b3 28 2, box b4 _, rowl _ _ _ _ _ _]) rfl (by kernel_rfl) (by kernel_rfl) (by kernel_rfl) #[false, true, true, true, true, true, false, false] (by kernel_rfl) rfl (y_build (vs := []) (cells := #[.slice none 0 0]) rfl bd24_) rfl rfl rfl (weak_trans (weak_room 0 rfl rfl) (weak_room 1 rfl rfl)) (listed' := #[true, false, false, false, false, false, false, false]) rfl ?_
        refine ge_take 1 (TK := [room b2 24 1, room b3 28 2, box b4 _, rowl _ _ _ _ _ _]) rfl (by kernel_rfl) (by kernel_rfl) (by kernel_rfl) #[true, false, false, true, true, false, true, false] (by kernel_rfl) rfl (y_fieldAddr_box fa60_4 rfl) rfl rfl rfl (weak_trans (weak_room 0 rfl rfl) (weak_room 1 rfl rfl)) (listed' := #[true, true, false, false, false, false, false, false]) rfl ?_
        refine ge_take 2 (TK := [room b2 24 1, room b3 28 2, box b4 _, rowl _ _ _ _ _ _]) rfl (by kernel_rfl) (by kernel_rfl) (by kernel_rfl) #[true, true, false, true, true, false, true, false] (by kernel_rfl) rfl (y_load Tryd.isAgg3 rfl (cell_box 2 rfl rfl)) rfl rfl rfl (weak_trans (weak_room 0 rfl rfl) (weak_room 1 rfl rfl)) (listed' := #[true, true, true, false, false, false, false, false]) rfl ?_
        refine ge_take 3 (TK := [room b2 24 1, room b3 28 2, box b4 _, rowl _ _ _ _ _ _]) rfl (by kernel_rfl) (by kernel_rfl) (by kernel_rfl) #[true, true, true, false, false, false, true, false] (by kernel_rfl) rfl (y_fieldAddr_box fa60_2 rfl) rfl rfl rfl (weak_trans (weak_room 0 rfl rfl) (weak_room 1 rfl rfl)) (listed' := #[true, true, true, true, false, false, false, false]) rfl ?_
        refine ge_take 4 (TK := [room b2 24 1, room b3 28 2, box b4 _, rowl _ _ _ _ _ _]) rfl (by kernel_rfl) (by kernel_rfl) (by kernel_rfl) #[true, true, true, true, false, false, true, false] (by kernel_rfl) rfl (y_load Tryd.isAgg3 rfl (cell_box 2 rfl rfl)) rfl rfl rfl (weak_trans (weak_room 0 rfl rfl) (weak_room 1 rfl rfl)) (listed' := #[true, true, true, true, true, false, false, false]) rfl ?_
        refine ge_take 5 (TK := [room b2 24 1, room b3 28 2, box b4 _, rowl _ _ _ _ _ _]) rfl (by kernel_rfl) (by kernel_rfl) (by kernel_rfl) #[true, true, true, true, true, false, true, false] (by kernel_rfl) rfl (y_build (vs := [(0, .int _ _), (1, .int _ _)]) (cells := #[_, _]) rfl (bd28_0_1 _ _)) rfl rfl rfl (weak_trans (weak_room 0 rfl rfl) (weak_room 1 rfl rfl)) (listed' := #[true, true, true, true, true, true, false, false]) rfl ?_
        refine ge_one 6 (k' := 0) (listed' := #[true, true, true, true, true, true, true, false]) (by kernel_rfl) rfl rfl rfl ?_
        refine gop_store 0 (v := .agg #[_]) (cs' := #[_]) rfl rfl Tryd.sizeOf24 rfl rfl rfl rfl (Nat.le_of_ble_eq_true rfl) rfl rfl ?_
        refine gops_nil ?_
        refine ge_fin (TK := [room b2 24 1, room b3 28 2, box b4 _, rowl _ _ _ _ _ _]) rfl (weak_trans (weak_room 0 rfl rfl) (weak_room 1 rfl rfl)) ?_
        refine ge_one 7 (k' := 0) (listed' := #[true, true, true, true, true, true, true, true]) (by kernel_rfl) rfl rfl rfl ?_
        refine gop_store 1 (v := .agg #[_, _]) (cs' := #[_, _]) rfl rfl Tryd.sizeOf28 rfl rfl rfl rfl (Nat.le_of_ble_eq_true rfl) rfl rfl ?_
        refine gops_nil ?_
        refine ge_fin (TK := [room b2 24 1, room b3 28 2, box b4 _, rowl _ _ _ _ _ _]) rfl (weak_trans (weak_room 0 rfl rfl) (weak_room 1 rfl rfl)) ?_
        refine ge_done (by kernel_rfl) ?_
        refine hN12 _ _ ?_
        refine gT [box b2 _, box b3 _, box b4 _, rowl _ _ _ _ _ _] rfl ?_
        refine gfrom [(2, .pointer _), (3, .pointer _)] ⟨rfl, rfl, trivial⟩ fun σ => ?_
        refine gret fun w1 hM => ?_
        refine ⟨_, res2 rfl (rc 0 (cs := [_]) hM rfl rfl Tryd.isAgg24 Tryd.sizeOf24 rfl) (rc 1 (cs := [_, _]) hM rfl rfl Tryd.isAgg28 Tryd.sizeOf28 rfl), ?_⟩
        rw [hP]
        exact ⟨_, rfl, hM.low, newL_nil⟩
      · 
        replace hc32 := not_f hc32
        have hb : b = true := by simpa using hc32
        obtain ⟨t, hto, hts, rfl, hP⟩ : ∃ t : Tr, t.ok ∧ t.size ≤ 1000 ∧ o16 = post t 0 ∧ parR s = madeR t := by
          rcases hcut with h9 | h9
          · rw [hb] at h9; exact absurd h9.1 (by decide)
          · exact h9.2
        refine gskip ?_
        refine hN10 _ _ ?_
        refine gfrom [(2, .pointer _), (3, .pointer _), (4, .pointer _)] ⟨rfl, rfl, rfl, trivial⟩ fun σ => ?_
        refine gseq fun N13 hN13 => ?_
        refine greg ?_
        refine gop (y_fieldAddr_box fa60_0 rfl) rfl rfl rfl ?_
        refine gop_pure (e_call (vs := [.pointer _]) Tryd.func26 rfl (by kernel_rfl) rfl) (fun w hM => polMade1_any w b4 _ _ t hto (by omega) (cell_box 2 (off := 0) rfl rfl w hM) ((row_rdl (f := pnCells) (fun _ => rfl) (hM.ok _ (List.mem_of_getElem? (i := 3) rfl))).mono (Nat.zero_le _)) hc16 hm16) rfl rfl rfl ?_
        refine gop (y_extract (v := .agg #[_]) rfl rfl) rfl rfl rfl ?_
        refine gop (y_extract (v := .agg #[_, _]) rfl rfl) rfl rfl rfl ?_
        refine gop_store 0 (v := .agg #[_]) (cs' := #[_]) rfl rfl Tryd.sizeOf24 rfl rfl rfl rfl (Nat.le_of_ble_eq_true rfl) rfl rfl ?_
        refine gop_store 1 (v := .agg #[_, _]) (cs' := #[_, _]) rfl rfl Tryd.sizeOf28 rfl rfl rfl rfl (Nat.le_of_ble_eq_true rfl) rfl rfl ?_
        refine gops_nil ?_
        refine hN13 _ _ ?_
        refine gT [box b2 _, box b3 _, box b4 _, rowl _ _ _ _ _ _] rfl ?_
        refine gfrom [(2, .pointer _), (3, .pointer _)] ⟨rfl, rfl, trivial⟩ fun σ => ?_
        refine gret fun w1 hM => ?_
        refine ⟨_, res2 rfl (rc 0 (cs := [_]) hM rfl rfl Tryd.isAgg24 Tryd.sizeOf24 rfl) (rc 1 (cs := [_, _]) hM rfl rfl Tryd.isAgg28 Tryd.sizeOf28 rfl), ?_⟩
        rw [hP]
        by_cases hB : 24 < t.size ∨ 12 < t.depth
        · have hm : (madeR t).2 = [] := by rw [madeR, if_pos hB]
          refine ⟨_, rfl, hM.low, ?_⟩
          rw [hm]
          simp only [if_pos hB]
          exact newL_nil
        · have hm : (madeR t).2 = post t 0 := by rw [madeR, if_neg hB]
          refine ⟨_, rfl, hM.low, ?_⟩
          rw [hm]
          simp only [if_neg hB]
          exact hM.newL 3 rfl (fun _ => rfl)
end Go.Proofs.YtllblbkbglifjaaDoor
namespace Go.Proofs.YtllblbkbglifjaaDoor
open Go.RowKit Go.Cf
set_option maxRecDepth 10000
theorem eg47 (op : BinOp) (x y : Operand) (xs ys : Array Value) (w : World) : (eqGuard op 47 x y (.agg xs) (.agg ys)).run Tryd.prog w = .ok () w := run_eqGuard_agg w op 47 x y xs ys (by kernel_rfl)
theorem ne47 (a0 b0 : Int) (a1 b1 : Int) (a2 b2 : Int) (a3 b3 : Int) (w : World) : (binOp .neq 47 (.agg #[.int .i64 a0, .int .i64 a1, .int .i64 a2, .int .i64 a3]) (.agg #[.int .i64 b0, .int .i64 b1, .int .i64 b2, .int .i64 b3])).run Tryd.prog w = .ok (.bool (!(decide (a0 = b0) && decide (a1 = b1) && decide (a2 = b2) && decide (a3 = b3)))) w := by
  simp [run_neq_struct, run_equalIn_agg, Tryd.underlying47, Tryd.stoodInHeld47, Program.fieldsOf, go_sem]
  (repeat' split) <;> simp_all
set_option maxHeartbeats 4000000 in
theorem refEqPol_any (w : World) (A B : Option Addr) (c d : Nat) (l m : List PN) (hl : Rdl w 0 4 pnCells A l) (hm : Rdl w 0 4 pnCells B m) (hlm : l.length ≤ maxLen) : Calls Tryd.prog 14 #[.agg #[.slice A l.length c], .agg #[.slice B m.length d]] w fun e w' => e = .returned (.bool (decide (l = m))) ∧ Below w.heap.size w w' := by
  have hmx : maxLen = 9223372036854775807 := rfl
  refine gcalls Tryd.func14 rfl Tryd.ntmps14 (Nat.le_of_ble_eq_true rfl) ?_
  refine gfrom [(0, .agg #[_]), (1, .agg #[_])] ⟨rfl, rfl, trivial⟩ fun σ => ?_
  refine gseq fun N1 hN1 => ?_
  refine greg ?_
  refine gop_box (v := .agg #[_]) (cs := #[_]) rfl rfl rfl (fun b2 hb2 => ?_)
  refine gop_box (v := .agg #[_]) (cs := #[_]) rfl rfl rfl (fun b3 hb3 => ?_)
  refine gop (y_assign (v := .bool _) rfl) rfl rfl rfl ?_
  refine gops_nil ?_
  refine hN1 _ _ ?_
  refine gT [box b2 _, box b3 _] rfl ?_
  refine gfrom [(2, .pointer _), (3, .pointer _)] ⟨rfl, rfl, trivial⟩ fun σ => ?_
  refine gseq fun N2 hN2 => ?_
  refine gseq fun N3 hN3 => ?_
  refine greg ?_
  refine gop (y_fieldAddr_box fa24_0 rfl) rfl rfl rfl ?_
  refine gop (y_load Tryd.isAgg22 rfl (cell_box 0 rfl rfl)) rfl rfl rfl ?_
  refine gop (y_len Tryd.underlying22 rfl) rfl rfl rfl ?_
  refine gop (y_fieldAddr_box fa24_0 rfl) rfl rfl rfl ?_
  refine gop (y_load Tryd.isAgg22 rfl (cell_box 1 rfl rfl)) rfl rfl rfl ?_
  refine gop (y_len Tryd.underlying22 rfl) rfl rfl rfl ?_
  refine gop (y_neq rfl rfl) rfl rfl rfl ?_
  refine gops_nil ?_
  refine hN3 _ _ ?_
  refine gfrom [(2, .pointer _), (3, .pointer _), (12, .bool _)] ⟨rfl, rfl, rfl, trivial⟩ fun σ => ?_
  refine gcond (b := _) rfl (fun hc12 => ?_) (fun hc12 => ?_)
  · 
    replace hc12 := of_decide_eq_true hc12
    have hD : decide (l = m) = false := decide_eq_false (fun h => by rw [h] at hc12; exact hc12 rfl)
    refine gseq fun N4 hN4 => ?_
    refine greg ?_
    refine gop (y_assign (v := .bool _) rfl) rfl rfl rfl ?_
    refine gops_nil ?_
    refine hN4 _ _ ?_
    refine gfrom [(4, .bool _)] ⟨rfl, trivial⟩ fun σ => ?_
    refine gret fun w1 hM => ?_
    refine ⟨_, res1 rfl (rt (v := .bool _) rfl), ?_⟩
    exact ⟨by rw [hD], hM.low⟩
  · 
    replace hc12 := Decidable.not_not.1 (of_decide_eq_false hc12)
    have hlen : l.length = m.length := by omega
    refine gskip ?_
    refine hN2 _ _ ?_
    refine gfrom [(2, .pointer _), (3, .pointer _)] ⟨rfl, rfl, trivial⟩ fun σ => ?_
    refine gseq fun N5 hN5 => ?_
    refine gseq fun N6 hN6 => ?_
    refine greg ?_
    refine gop (y_assign (v := .int _ _) rfl) rfl rfl rfl ?_
    refine gops_nil ?_
    refine hN6 _ _ ?_
    refine gfrom [(2, .pointer _), (3, .pointer _), (5, .int _ _)] ⟨rfl, rfl, rfl, trivial⟩ fun σ => ?_
    refine gblock ?_
    refine gfrom2 [(5, .int _ _)] [(2, .pointer _), (3, .pointer _)] ⟨rfl, trivial⟩ ⟨rfl, rfl, trivial⟩ fun σ => ?_
    refine gloop2 (G := Nat) (fun k => k ≤ l.length ∧ ∀ j (h1 : j < l.length) (h2 : j < m.length), j < k → l[j] = m[j]) (fun k => l.length - k) (fun k => [(5, .int .i64 (k : Int))]) (fun k => []) (0) ?h0 ⟨rfl, trivial⟩ ⟨rfl, rfl, trivial⟩ rfl ?round
    case h0 => exact ⟨Nat.zero_le _, fun _ _ _ h => absurd h (by omega)⟩
    case round =>
      intro k hφ σ
      obtain ⟨hk, hz⟩ := hφ
      refine gseq fun N7 hN7 => ?_
      refine gseq fun N8 hN8 => ?_
      refine greg ?_
      refine gop (y_move (v := .int _ _) rfl) rfl rfl rfl ?_
      refine gop (y_fieldAddr_box fa24_0 rfl) rfl rfl rfl ?_
      refine gop (y_load Tryd.isAgg22 rfl (cell_box 0 rfl rfl)) rfl rfl rfl ?_
      refine gop (y_len Tryd.underlying22 rfl) rfl rfl rfl ?_
      refine gop (y_lss rfl rfl) rfl rfl rfl ?_
      refine gops_nil ?_
      refine hN8 _ _ ?_
      refine gfrom [(2, .pointer _), (3, .pointer _), (5, .int _ _), (17, .bool _)] ⟨rfl, rfl, rfl, rfl, trivial⟩ fun σ => ?_
      refine gcond (b := _) rfl (fun hc17 => ?_) (fun hc17 => ?_)
      · 
        replace hc17 := of_decide_eq_true hc17
        have hk1 : k < l.length := by omega
        have hk2 : k < m.length := by omega
        obtain ⟨ad, rfl, -, hca⟩ := hl.at_ hk1
        obtain ⟨bd, rfl, -, hcb⟩ := hm.at_ hk2
        refine gskip ?_
        refine hN7 _ _ ?_
        refine gfrom [(2, .pointer _), (3, .pointer _), (5, .int _ _)] ⟨rfl, rfl, rfl, trivial⟩ fun σ => ?_
        refine gseq fun N9 hN9 => ?_
        refine gblock ?_
        refine gseq fun N10 hN10 => ?_
        refine greg_q (by kernel_rfl) (by kernel_rfl) ?_
        refine gq (y_fieldAddr_box fa24_0 rfl) rfl rfl rfl ?_
        refine gq (y_load Tryd.isAgg22 rfl (cell_box 0 rfl rfl)) rfl rfl rfl ?_
        refine gq (y_move (v := .int _ _) rfl) rfl rfl rfl ?_
        refine gq (y_indexAddr (m := k) Tryd.underlying22 Tryd.sizeOf47 rfl rfl (by omega) (by omega) (by omega)) rfl rfl rfl ?_
        refine gq (y_loads (cs := [_, _, _, _]) Tryd.isAgg47 Tryd.sizeOf47 rfl rfl (cells_base hca)) rfl rfl rfl ?_
        refine gq (y_fieldAddr_box fa24_0 rfl) rfl rfl rfl ?_
        refine gq (y_load Tryd.isAgg22 rfl (cell_box 1 rfl rfl)) rfl rfl rfl ?_
        refine gq (y_move (v := .int _ _) rfl) rfl rfl rfl ?_
        refine gq (y_indexAddr (m := k) Tryd.underlying22 Tryd.sizeOf47 rfl rfl (by omega) (by omega) (by omega)) rfl rfl rfl ?_
        refine gq (y_loads (cs := [_, _, _, _]) Tryd.isAgg47 Tryd.sizeOf47 rfl rfl (cells_base hcb)) rfl rfl rfl ?_
        refine gq (y_bin (vx := .agg #[_, _, _, _]) (vy := .agg #[_, _, _, _]) rfl rfl (fun w => eg47 _ _ _ _ _ w) (fun w => ne47 _ _ _ _ _ _ _ _ w)) rfl rfl rfl ?_
        refine gqs_nil ?_
        refine hN10 _ _ ?_
        refine gfrom [(2, .pointer _), (3, .pointer _), (5, .int _ _), (30, .bool _)] ⟨rfl, rfl, rfl, rfl, trivial⟩ fun σ => ?_
        refine gcond (b := _) rfl (fun hc30 => ?_) (fun hc30 => ?_)
        · 
          rw [pn_same] at hc30
          have hne : l[k] ≠ m[k] := by simpa using hc30
          have hD : decide (l = m) = false := decide_eq_false (fun h => hne (by subst h; rfl))
          refine gseq fun N11 hN11 => ?_
          refine greg ?_
          refine gop (y_assign (v := .bool _) rfl) rfl rfl rfl ?_
          refine gops_nil ?_
          refine hN11 _ _ ?_
          refine gfrom [(4, .bool _)] ⟨rfl, trivial⟩ fun σ => ?_
          refine gret fun w1 hM => ?_
          refine ⟨_, res1 rfl (rt (v := .bool _) rfl), ?_⟩
          exact ⟨by rw [hD], hM.low⟩
        · 
          rw [pn_same] at hc30
          have heq : l[k] = m[k] := by simpa using hc30
          refine gskip ?_
          refine hN9 _ _ ?_
          refine gfrom [(2, .pointer _), (3, .pointer _), (5, .int _ _)] ⟨rfl, rfl, rfl, trivial⟩ fun σ => ?_
          refine greg ?_
          refine gop (y_move (v := .int _ _) rfl) rfl rfl rfl ?_
          refine gop (y_add rfl rfl ⟨by omega, by omega⟩) rfl rfl rfl ?_
          refine gop (y_assign (v := .int _ _) rfl) rfl rfl rfl ?_
          refine gops_nil ?_
          refine gnext2 (k + 1) (by omega) (⟨by show k + 1 ≤ _; omega, fun j h1 h2 hj => by rcases Nat.lt_succ_iff_lt_or_eq.1 hj with h3 | rfl; exact hz j h1 h2 h3; exact heq⟩) ⟨rfl, trivial⟩ ⟨rfl, rfl, trivial⟩ ⟨_, rfl⟩
      · 
        replace hc17 := of_decide_eq_false hc17
        have hD : decide (l = m) = true := decide_eq_true (List.ext_getElem hlen fun j h1 h2 => hz j h1 h2 (by omega))
        refine gexit ?_
        refine hN5 _ _ ?_
        refine gfrom [] trivial fun σ => ?_
        refine gseq fun N12 hN12 => ?_
        refine greg ?_
        refine gop (y_assign (v := .bool _) rfl) rfl rfl rfl ?_
        refine gops_nil ?_
        refine hN12 _ _ ?_
        refine gfrom [(4, .bool _)] ⟨rfl, trivial⟩ fun σ => ?_
        refine gret fun w1 hM => ?_
        refine ⟨_, res1 rfl (rt (v := .bool _) rfl), ?_⟩
        exact ⟨by rw [hD], hM.low⟩
end Go.Proofs.YtllblbkbglifjaaDoor
namespace Go.Cf
abbrev exPs : ByteArray := ⟨#[110, 111, 116, 32, 40, 116, 101, 115, 116, 115, 32, 97, 110, 100, 32, 111, 119, 110, 101, 114, 115, 41]⟩
abbrev exPs2 : ByteArray := ⟨#[110, 111, 116, 32, 116, 101, 115, 116, 115, 32, 111, 114, 32, 110, 111, 116, 32, 111, 119, 110, 101, 114, 115]⟩
def exPn : List PN := post (.neg (.bin 6 (.leaf 3 0) (.leaf 2 0))) 0
def exQn : List PN := post (.bin 7 (.neg (.leaf 3 0)) (.neg (.leaf 2 0))) 0
theorem ex_par : parR exPs = (⟨0, 0⟩, exPn) := by rfl
theorem ex_nor : norR exPn = (⟨0, 0⟩, exQn) := by rfl
theorem ex_fmt : fmtR exPn = (⟨0, 0⟩, exPs.data.toList) := by rfl
theorem ex_fmt2 : fmtR exQn = (⟨0, 0⟩, exPs2.data.toList) := by rfl
theorem ex_ev : evalF exPn ⟨0, false, true, 0⟩ = ⟨0, 0⟩ ∧ evalV exPn ⟨0, false, true, 0⟩ = true := by constructor <;> rfl
theorem ex_t1 : baL (fmtR (parR exPs).2).2 = exPs := by rw [ex_par, ex_fmt]; rfl
theorem ex_t2 : baL (fmtR (norR (parR exPs).2).2).2 = exPs2 := by rw [ex_par, ex_nor, ex_fmt2]; rfl
theorem ex_v : evalV (parR exPs).2 ⟨0, false, true, 0⟩ = true := by rw [ex_par]; exact ex_ev.2
end Go.Cf
namespace Go.Proofs.YtllblbkbglifjaaDoor
open Go.RowKit Go.Cf
set_option maxRecDepth 10000
theorem bd26_2 (x1 : Bool) : Tryd.prog.built 26 [(2, .bool x1)] = some #[.int .i64 0, .bool false, .bool x1, .int .i64 0] := by kernel_rfl
theorem fa28_0 (a : Addr) (w : World) : (Instr.fieldAt 28 (.pointer (some a)) 0).run Tryd.prog w = .ok (.pointer (some (a.add 0))) w := by kernel_rfl
set_option maxHeartbeats 4000000 in
theorem policyExample_any (w : World) (hL : LaidP w) : Calls Tryd.prog 12 #[] w fun e w' => e = .returned (.bool true) ∧ Below w.heap.size w w' := by
  refine gcalls Tryd.func12 rfl Tryd.ntmps12 (Nat.le_of_ble_eq_true rfl) ?_
  refine gfrom [] trivial fun σ => ?_
  refine gseq fun N1 hN1 => ?_
  refine greg ?_
  refine gop (y_assign (v := .bool _) rfl) rfl rfl rfl ?_
  refine gops_nil ?_
  refine hN1 _ _ ?_
  refine gfrom [] trivial fun σ => ?_
  refine gseq fun N2 hN2 => ?_
  refine greg ?_
  refine gop_new (fun lo ws v => ∃ v1, v = .tuple #[.agg #[v1], fv (parR exPs).1] ∧ NewL 4 pnCells (parR exPs).2 lo ws v1) (e_call (vs := [_]) Tryd.func19 rfl (by kernel_rfl) rfl) (fun w hM => by have hc := polParse_any w exPs (hL.base hM) (by decide); exact hc.mono fun _ _ ⟨v1, h1, h2, h3⟩ => ⟨_, h1, h2, v1, rfl, h3⟩) rfl rfl rfl ?_
  rintro _ lo12 ws12 hlo12 ⟨_, rfl, A12, c12, rfl, hcc12, hcm12, hr12⟩
  refine gop (y_move (v := .tuple #[.agg #[.slice _ _ _], .agg #[_, _]]) rfl) rfl rfl rfl ?_
  refine gop (y_extract (v := .agg #[_]) rfl rfl) rfl rfl rfl ?_
  refine gop (y_extract (v := .agg #[_, _]) rfl rfl) rfl rfl rfl ?_
  refine gop_alloc (cs := #[.slice none 0 0]) Tryd.zeroValue24 rfl rfl (fun b1 hb1 => ?_)
  refine gop_alloc (cs := #[.int .i64 0, .int .i64 0]) Tryd.zeroValue28 rfl rfl (fun b2 hb2 => ?_)
  refine gop_store 1 (v := .agg #[_]) (cs' := #[_]) rfl rfl Tryd.sizeOf24 rfl rfl rfl rfl (Nat.le_of_ble_eq_true rfl) rfl rfl ?_
  refine gop_store 2 (v := .agg #[_, _]) (cs' := #[_, _]) rfl rfl Tryd.sizeOf28 rfl rfl rfl rfl (Nat.le_of_ble_eq_true rfl) rfl rfl ?_
  refine gops_nil ?_
  refine hN2 _ _ ?_
  refine gT [seal_ _ _, box b1 _, box b2 _] rfl ?_
  refine gfrom [(1, .pointer _), (2, .pointer _)] ⟨rfl, rfl, trivial⟩ fun σ => ?_
  refine gseq fun N3 hN3 => ?_
  refine greg ?_
  refine gop (y_loads (cs := [_]) Tryd.isAgg24 Tryd.sizeOf24 rfl rfl (cells_box 1 rfl)) rfl rfl rfl ?_
  refine gop_pure (e_call (vs := [.agg #[_]]) Tryd.func9 rfl (by kernel_rfl) rfl) (fun w hM => polFormat_any w A12 c12 (parR exPs).2 ((hr12.seal_ 0 rfl (Nat.le_refl _) hM).mono (Nat.zero_le _)) hcc12 hcm12) rfl rfl rfl ?_
  refine gop (y_move (v := .tuple #[.string _, .agg #[_, _]]) rfl) rfl rfl rfl ?_
  refine gop (y_extract (v := .string _) rfl rfl) rfl rfl rfl ?_
  refine gop (y_extract (v := .agg #[_, _]) rfl rfl) rfl rfl rfl ?_
  refine gop_alloc (cs := #[.int .i64 0, .int .i64 0]) Tryd.zeroValue28 rfl rfl (fun b4 hb4 => ?_)
  refine gop (y_assign (v := .string _) rfl) rfl rfl rfl ?_
  refine gop_store 3 (v := .agg #[_, _]) (cs' := #[_, _]) rfl rfl Tryd.sizeOf28 rfl rfl rfl rfl (Nat.le_of_ble_eq_true rfl) rfl rfl ?_
  refine gops_nil ?_
  refine hN3 _ _ ?_
  refine gT [seal_ _ _, box b1 _, box b2 _, box b4 _] rfl ?_
  refine gfrom [(1, .pointer _), (2, .pointer _), (3, .string _), (4, .pointer _)] ⟨rfl, rfl, rfl, rfl, trivial⟩ fun σ => ?_
  refine gseq fun N4 hN4 => ?_
  refine greg ?_
  refine gop (y_loads (cs := [_]) Tryd.isAgg24 Tryd.sizeOf24 rfl rfl (cells_box 1 rfl)) rfl rfl rfl ?_
  refine gop_new (fun lo ws v => ∃ v1, v = .tuple #[.agg #[v1], fv (norR (parR exPs).2).1] ∧ NewL 4 pnCells (norR (parR exPs).2).2 lo ws v1) (e_call (vs := [.agg #[_]]) Tryd.func11 rfl (by kernel_rfl) rfl) (fun w hM => by have hc := polNormal_any w A12 c12 (parR exPs).2 ((hr12.seal_ 0 rfl (Nat.le_refl _) hM).mono (Nat.zero_le _)) hcc12 hcm12; exact hc.mono fun _ _ ⟨v1, h1, h2, h3⟩ => ⟨_, h1, h2, v1, rfl, h3⟩) rfl rfl rfl ?_
  rintro _ lo22 ws22 hlo22 ⟨_, rfl, A22, c22, rfl, hcc22, hcm22, hr22⟩
  refine gop (y_move (v := .tuple #[.agg #[.slice _ _ _], .agg #[_, _]]) rfl) rfl rfl rfl ?_
  refine gop (y_extract (v := .agg #[_]) rfl rfl) rfl rfl rfl ?_
  refine gop (y_extract (v := .agg #[_, _]) rfl rfl) rfl rfl rfl ?_
  refine gop_alloc (cs := #[.slice none 0 0]) Tryd.zeroValue24 rfl rfl (fun b5 hb5 => ?_)
  refine gop_alloc (cs := #[.int .i64 0, .int .i64 0]) Tryd.zeroValue28 rfl rfl (fun b6 hb6 => ?_)
  refine gop_store 5 (v := .agg #[_]) (cs' := #[_]) rfl rfl Tryd.sizeOf24 rfl rfl rfl rfl (Nat.le_of_ble_eq_true rfl) rfl rfl ?_
  refine gop_store 6 (v := .agg #[_, _]) (cs' := #[_, _]) rfl rfl Tryd.sizeOf28 rfl rfl rfl rfl (Nat.le_of_ble_eq_true rfl) rfl rfl ?_
  refine gops_nil ?_
  refine hN4 _ _ ?_
  refine gT [seal_ _ _, box b1 _, box b2 _, box b4 _, seal_ _ _, box b5 _, box b6 _] rfl ?_
  refine gfrom [(1, .pointer _), (2, .pointer _), (3, .string _), (4, .pointer _), (5, .pointer _), (6, .pointer _)] ⟨rfl, rfl, rfl, rfl, rfl, rfl, trivial⟩ fun σ => ?_
  refine gseq fun N5 hN5 => ?_
  refine greg ?_
  refine gop (y_loads (cs := [_]) Tryd.isAgg24 Tryd.sizeOf24 rfl rfl (cells_box 5 rfl)) rfl rfl rfl ?_
  refine gop_pure (e_call (vs := [.agg #[_]]) Tryd.func9 rfl (by kernel_rfl) rfl) (fun w hM => polFormat_any w A22 c22 (norR (parR exPs).2).2 ((hr22.seal_ 4 rfl (Nat.le_refl _) hM).mono (Nat.zero_le _)) hcc22 hcm22) rfl rfl rfl ?_
  refine gop (y_move (v := .tuple #[.string _, .agg #[_, _]]) rfl) rfl rfl rfl ?_
  refine gop (y_extract (v := .string _) rfl rfl) rfl rfl rfl ?_
  refine gop (y_extract (v := .agg #[_, _]) rfl rfl) rfl rfl rfl ?_
  refine gop_alloc (cs := #[.int .i64 0, .int .i64 0]) Tryd.zeroValue28 rfl rfl (fun b8 hb8 => ?_)
  refine gop (y_assign (v := .string _) rfl) rfl rfl rfl ?_
  refine gop_store 7 (v := .agg #[_, _]) (cs' := #[_, _]) rfl rfl Tryd.sizeOf28 rfl rfl rfl rfl (Nat.le_of_ble_eq_true rfl) rfl rfl ?_
  refine gops_nil ?_
  refine hN5 _ _ ?_
  refine gT [seal_ _ _, box b1 _, box b2 _, box b4 _, seal_ _ _, box b5 _, box b6 _, box b8 _] rfl ?_
  refine gfrom [(1, .pointer _), (2, .pointer _), (3, .string _), (4, .pointer _), (6, .pointer _), (7, .string _), (8, .pointer _)] ⟨rfl, rfl, rfl, rfl, rfl, rfl, rfl, trivial⟩ fun σ => ?_
  refine gseq fun N6 hN6 => ?_
  refine greg ?_
  refine gop (y_loads (cs := [_]) Tryd.isAgg24 Tryd.sizeOf24 rfl rfl (cells_box 1 rfl)) rfl rfl rfl ?_
  refine gop (y_build (vs := [(2, _)]) (cells := #[.int .i64 0, .bool false, _, .int .i64 0]) rfl (bd26_2 _)) rfl rfl rfl ?_
  refine gop_pure (e_call (vs := [.agg #[_], .agg #[_, _, _, _]]) Tryd.func10 rfl (by kernel_rfl) rfl) (fun w hM => polEval_any w A12 c12 (parR exPs).2 ((hr12.seal_ 0 rfl (Nat.le_refl _) hM).mono (Nat.zero_le _)) hcc12 hcm12 ⟨0, false, true, 0⟩) rfl rfl rfl ?_
  refine gop (y_move (v := .tuple #[.bool _, .agg #[_, _]]) rfl) rfl rfl rfl ?_
  refine gop (y_extract (v := .bool _) rfl rfl) rfl rfl rfl ?_
  refine gop (y_extract (v := .agg #[_, _]) rfl rfl) rfl rfl rfl ?_
  refine gop_alloc (cs := #[.int .i64 0, .int .i64 0]) Tryd.zeroValue28 rfl rfl (fun b10 hb10 => ?_)
  refine gop (y_assign (v := .bool _) rfl) rfl rfl rfl ?_
  refine gop_store 8 (v := .agg #[_, _]) (cs' := #[_, _]) rfl rfl Tryd.sizeOf28 rfl rfl rfl rfl (Nat.le_of_ble_eq_true rfl) rfl rfl ?_
  refine gops_nil ?_
  refine hN6 _ _ ?_
  refine gT [seal_ _ _, box b1 _, box b2 _, box b4 _, seal_ _ _, box b5 _, box b6 _, box b8 _, box b10 _] rfl ?_
  refine gfrom [(2, .pointer _), (3, .string _), (4, .pointer _), (6, .pointer _), (7, .string _), (8, .pointer _), (9, .bool _), (10, .pointer _)] ⟨rfl, rfl, rfl, rfl, rfl, rfl, rfl, rfl, trivial⟩ fun σ => ?_
  refine gseq fun N7 hN7 => ?_
  refine greg ?_
  refine gop (y_fieldAddr_box fa28_0 rfl) rfl rfl rfl ?_
  refine gop (y_load Tryd.isAgg3 rfl (cell_box 2 rfl rfl)) rfl rfl rfl ?_
  refine gop (y_eql rfl rfl) rfl rfl rfl ?_
  refine gop (y_move (v := .bool _) rfl) rfl rfl rfl ?_
  refine gop_if (want := true) rfl rfl rfl rfl rfl rfl (fun hg39 => ?_) (fun hg39 => ?_)
  · 
    have hg39d := of_decide_eq_true hg39
    refine gop (y_bare (y_fieldAddr_box fa28_0 rfl)) rfl rfl rfl ?_
    refine gop_on rfl rfl rfl rfl hg39 ?_
    refine gop (y_bare (y_load Tryd.isAgg3 rfl (cell_box 3 rfl rfl))) rfl rfl rfl ?_
    refine gop_on rfl rfl rfl rfl hg39 ?_
    refine gop (y_bare (y_eql rfl rfl)) rfl rfl rfl ?_
    refine gop (y_pick_t (v := .bool _) rfl hg39 rfl) rfl rfl rfl ?_
    refine gop (y_move (v := .bool _) rfl) rfl rfl rfl ?_
    refine gop_if (want := true) rfl rfl rfl rfl rfl rfl (fun hg44 => ?_) (fun hg44 => ?_)
    · 
      have hg44d := of_decide_eq_true hg44
      refine gop (y_bare (y_fieldAddr_box fa28_0 rfl)) rfl rfl rfl ?_
      refine gop_on rfl rfl rfl rfl hg44 ?_
      refine gop (y_bare (y_load Tryd.isAgg3 rfl (cell_box 6 rfl rfl))) rfl rfl rfl ?_
      refine gop_on rfl rfl rfl rfl hg44 ?_
      refine gop (y_bare (y_eql rfl rfl)) rfl rfl rfl ?_
      refine gop (y_pick_t (v := .bool _) rfl hg44 rfl) rfl rfl rfl ?_
      refine gop (y_move (v := .bool _) rfl) rfl rfl rfl ?_
      refine gop_if (want := true) rfl rfl rfl rfl rfl rfl (fun hg49 => ?_) (fun hg49 => ?_)
      · 
        have hg49d := of_decide_eq_true hg49
        refine gop (y_bare (y_fieldAddr_box fa28_0 rfl)) rfl rfl rfl ?_
        refine gop_on rfl rfl rfl rfl hg49 ?_
        refine gop (y_bare (y_load Tryd.isAgg3 rfl (cell_box 7 rfl rfl))) rfl rfl rfl ?_
        refine gop_on rfl rfl rfl rfl hg49 ?_
        refine gop (y_bare (y_eql rfl rfl)) rfl rfl rfl ?_
        refine gop (y_pick_t (v := .bool _) rfl hg49 rfl) rfl rfl rfl ?_
        refine gop (y_move (v := .bool _) rfl) rfl rfl rfl ?_
        refine gop_if (want := true) rfl rfl rfl rfl rfl rfl (fun hg54 => ?_) (fun hg54 => ?_)
        · 
          have hg54d := of_decide_eq_true hg54
          refine gop (y_bare (y_fieldAddr_box fa28_0 rfl)) rfl rfl rfl ?_
          refine gop_on rfl rfl rfl rfl hg54 ?_
          refine gop (y_bare (y_load Tryd.isAgg3 rfl (cell_box 8 rfl rfl))) rfl rfl rfl ?_
          refine gop_on rfl rfl rfl rfl hg54 ?_
          refine gop (y_bare (y_eql rfl rfl)) rfl rfl rfl ?_
          refine gop (y_pick_t (v := .bool _) rfl hg54 rfl) rfl rfl rfl ?_
          refine gop (y_move (v := .bool _) rfl) rfl rfl rfl ?_
          refine gop_if (want := true) rfl rfl rfl rfl rfl rfl (fun hg59 => ?_) (fun hg59 => ?_)
          · 
            have hg59d := of_decide_eq_true hg59
            refine gop (y_bare (y_move (v := .string _) rfl)) rfl rfl rfl ?_
            refine gop_on rfl rfl rfl rfl hg59 ?_
            refine gop (y_bare (y_eqls rfl rfl)) rfl rfl rfl ?_
            refine gop (y_pick_t (v := .bool _) rfl hg59 rfl) rfl rfl rfl ?_
            refine gop (y_move (v := .bool _) rfl) rfl rfl rfl ?_
            refine gop_if (want := true) rfl rfl rfl rfl rfl rfl (fun hg63 => ?_) (fun hg63 => ?_)
            · 
              have hg63d := hg63
              refine gop (y_bare (y_move (v := .string _) rfl)) rfl rfl rfl ?_
              refine gop_on rfl rfl rfl rfl hg63 ?_
              refine gop (y_bare (y_eqls rfl rfl)) rfl rfl rfl ?_
              refine gop (y_pick_t (v := .bool _) rfl hg63 rfl) rfl rfl rfl ?_
              refine gop (y_move (v := .bool _) rfl) rfl rfl rfl ?_
              refine gop_if (want := true) rfl rfl rfl rfl rfl rfl (fun hg67 => ?_) (fun hg67 => ?_)
              · 
                have hg67d := hg67
                refine gop (y_bare (y_move (v := .bool _) rfl)) rfl rfl rfl ?_
                refine gop (y_pick_t (v := .bool _) rfl hg67 rfl) rfl rfl rfl ?_
                refine gop (y_assign (v := .bool _) rfl) rfl rfl rfl ?_
                refine gops_nil ?_
                refine hN7 _ _ ?_
                refine gfrom [(0, .bool _)] ⟨rfl, trivial⟩ fun σ => ?_
                refine gret fun w1 hM => ?_
                refine ⟨_, res1 rfl (rt (v := .bool _) rfl), ?_⟩
                exact ⟨by rw [ex_v], hM.low⟩
              · 
                 exact absurd hg67 (by rw [ex_t2]; simp)
            · 
               exact absurd hg63 (by rw [ex_t1]; simp)
          · 
             exact absurd hg59 (by simp [ex_par, ex_nor, ex_fmt, ex_fmt2, ex_ev])
        · 
           exact absurd hg54 (by simp [ex_par, ex_nor, ex_fmt, ex_fmt2, ex_ev])
      · 
         exact absurd hg49 (by simp [ex_par, ex_nor, ex_fmt, ex_fmt2, ex_ev])
    · 
       exact absurd hg44 (by simp [ex_par, ex_nor, ex_fmt, ex_fmt2, ex_ev])
  · 
     exact absurd hg39 (by simp [ex_par, ex_nor, ex_fmt, ex_fmt2, ex_ev])
end Go.Proofs.YtllblbkbglifjaaDoor
namespace Go.Cf
open Go.RowKit
theorem run_to {p : Nat → Bool} {L : Nat} : ∀ (n i e : Nat), e - i = n → i ≤ e → e ≤ L → (∀ j, i ≤ j → j < e → p j = true) → (e < L → p e = false) → runB p L i = e
  | 0, i, e, hn, h1, h2, h3, h4 => by
    obtain rfl : i = e := by omega
    exact run_stop h4
  | n + 1, i, e, hn, h1, h2, h3, h4 => by
    rw [run_step (by omega) (h3 i (Nat.le_refl _) (by omega))]
    exact run_to n (i + 1) e (by omega) (by omega) h2 (fun j h5 h6 => h3 j (by omega) h6) h4
section
variable {s : ByteArray} {i : Nat} {w r : List UInt8}
theorem size_drop (h : s.data.toList.drop i = w ++ r) (hw : 0 < w.length) : i + w.length + r.length = s.size := by
  have h1 := congrArg List.length h
  rw [List.length_drop, List.length_append] at h1
  have h2 : s.data.toList.length = s.size := by rw [Array.length_toList]; rfl
  omega
theorem byte_drop (h : s.data.toList.drop i = w ++ r) {j : Nat} (hj : j < w.length) : byteAt s (i + j) = (w[j]).toNat := by
  have h1 := congrArg (fun z => z[j]?) h
  simp only [List.getElem?_drop] at h1
  rw [List.getElem?_append_left hj, List.getElem?_eq_getElem hj] at h1
  rw [byteAt, h1]; rfl
theorem extract_drop (h : s.data.toList.drop i = w ++ r) : s.extract i (i + w.length) = baL w := by
  apply ByteArray.ext
  apply Array.toList_inj.1
  rw [ByteArray.data_extract, baL_data, Array.toList_extract, List.extract_eq_take_drop, h, show i + w.length - i = w.length by omega, List.take_left]
def Sep (r : List UInt8) : Prop := ∀ c, r.head? = some c → c = 32 ∨ c = 40 ∨ c = 41
theorem byte_next (h : s.data.toList.drop i = w ++ r) {c : UInt8} {r' : List UInt8} (hr : r = c :: r') : byteAt s (i + w.length) = c.toNat := by
  have h1 : s.data.toList.drop i = (w ++ [c]) ++ r' := by rw [h, hr, List.append_assoc]; rfl
  have h2 := byte_drop h1 (j := w.length) (by simp)
  rw [h2]; simp
theorem tk_word (h : s.data.toList.drop i = w ++ r) (hw : 0 < w.length) (hc : ∀ c ∈ w, c ≠ 32 ∧ c ≠ 40 ∧ c ≠ 41) (hr : Sep r) : tks s i = (i, baL w) :: tks s (i + w.length) := by
  have hs := size_drop h hw
  have hb : ∀ j, j < w.length → byteAt s (i + j) ≠ 32 ∧ byteAt s (i + j) ≠ 40 ∧ byteAt s (i + j) ≠ 41 := fun j hj => by
    rw [byte_drop h hj]
    obtain ⟨h1, h2, h3⟩ := hc _ (List.getElem_mem hj)
    exact ⟨fun e => h1 (UInt8.toNat_inj.1 e), fun e => h2 (UInt8.toNat_inj.1 e), fun e => h3 (UInt8.toNat_inj.1 e)⟩
  have hsk : skipW s i = i := run_stop (fun _ => decide_eq_false (by have := (hb 0 hw).1; rwa [Nat.add_zero] at this))
  have hen : endW s i = i + w.length := by
    refine run_to w.length i (i + w.length) (by omega) (by omega) (by omega) (fun j h1 h2 => decide_eq_true ?_) (fun h1 => decide_eq_false ?_)
    · have := hb (j - i) (by omega)
      rwa [show i + (j - i) = j by omega] at this
    · cases r with
      | nil => simp at hs; omega
      | cons c r' =>
        rw [byte_next h rfl]
        rcases hr c rfl with rfl | rfl | rfl
        · exact fun h => h.1 rfl
        · exact fun h => h.2.1 rfl
        · exact fun h => h.2.2 rfl
  have hne : nextW s i = i + w.length := by rw [nextW, hen, if_neg (by omega)]
  rw [tks_cons (by rw [hsk]; omega), hsk, hne, extract_drop h]
theorem tk_par {c : UInt8} (h : s.data.toList.drop i = c :: r) (hc : c = 40 ∨ c = 41) : tks s i = (i, baL [c]) :: tks s (i + 1) := by
  have h' : s.data.toList.drop i = [c] ++ r := h
  have hs := size_drop h' (by simp)
  have hb : byteAt s i = c.toNat := by
    have := byte_drop h' (j := 0) (by simp)
    rwa [Nat.add_zero] at this
  simp only [List.length_cons, List.length_nil] at hs
  have hsk : skipW s i = i := run_stop (fun _ => decide_eq_false (by rw [hb]; rcases hc with rfl | rfl <;> decide))
  have hen : endW s i = i := run_stop (fun _ => decide_eq_false (by rw [hb]; rcases hc with rfl | rfl <;> decide))
  have hne : nextW s i = i + 1 := by rw [nextW, hen, if_pos (by omega)]
  have he := extract_drop h'
  simp only [List.length_cons, List.length_nil, Nat.zero_add] at he
  rw [tks_cons (by rw [hsk]; omega), hsk, hne, he]
theorem tk_space (h : s.data.toList.drop i = 32 :: r) : tks s i = tks s (i + 1) := by
  have h' : s.data.toList.drop i = [32] ++ r := h
  have hs := size_drop h' (by simp)
  have hb : byteAt s i = 32 := by
    have := byte_drop h' (j := 0) (by simp)
    rwa [Nat.add_zero] at this
  simp only [List.length_cons, List.length_nil] at hs
  rw [← tks_skip s i, skipW, run_step (by omega) (decide_eq_true hb), ← skipW, tks_skip]
theorem drop_more {a : List UInt8} (h : s.data.toList.drop i = a ++ r) : s.data.toList.drop (i + a.length) = r := by
  rw [← List.drop_drop, h, List.drop_left]
end
def parW (c : Prop) [Decidable c] (l : List ByteArray) : List ByteArray := if c then wL :: (l ++ [wR]) else l
def showW : Tr → Nat → List ByteArray
  | .leaf k n, _ => if k = 1 then [wScore, baL (Lib.decDigits n.toNat)] else if k = 4 then [wUser, baL (Lib.decDigits n.toNat)] else if k = 2 then [wOwners] else [wTests]
  | .neg t, _ => wNot :: showW t 2
  | .bin k a b, v => parW (lvK k < v) (showW a (lvK k) ++ (if k = 6 then wAnd else wOr) :: showW b (lvK k + 1))
def Spells (s : ByteArray) (i e : Nat) (ws : List ByteArray) : Prop := ∃ ts, tks s i = ts ++ tks s e ∧ ts.map Prod.snd = ws
theorem Spells.app {s : ByteArray} {i e f : Nat} {a b : List ByteArray} (h1 : Spells s i e a) (h2 : Spells s e f b) : Spells s i f (a ++ b) := by
  obtain ⟨t1, e1, e2⟩ := h1
  obtain ⟨t2, e3, e4⟩ := h2
  exact ⟨t1 ++ t2, by rw [e1, e3, List.append_assoc], by rw [List.map_append, e2, e4]⟩
theorem Spells.one {s : ByteArray} {i e p : Nat} {w : ByteArray} (h : tks s i = (p, w) :: tks s e) : Spells s i e [w] := ⟨[(p, w)], h, rfl⟩
theorem Spells.skip {s : ByteArray} {i e : Nat} (h : tks s i = tks s e) : Spells s i e [] := ⟨[], h, rfl⟩
theorem dig_word {n : Int} (h0 : 0 ≤ n) (h1 : n ≤ 8) : ∀ c ∈ Lib.decDigits n.toNat, c ≠ 32 ∧ c ≠ 40 ∧ c ≠ 41 := by
  rw [dig_one h0 h1]
  obtain ⟨k, rfl⟩ := Int.eq_ofNat_of_zero_le h0
  have hk : k ≤ 8 := by have : (k : Int) ≤ 8 := h1; omega
  intro c hc
  rw [List.mem_singleton.1 hc]
  match k, hk with
  | 0, _ => decide
  | 1, _ => decide
  | 2, _ => decide
  | 3, _ => decide
  | 4, _ => decide
  | 5, _ => decide
  | 6, _ => decide
  | 7, _ => decide
  | 8, _ => decide
theorem sep_space (r : List UInt8) : Sep (32 :: r) := fun c h => by cases h; exact .inl rfl
theorem sep_close (r : List UInt8) : Sep (41 :: r) := fun c h => by cases h; exact .inr (.inr rfl)
theorem sp_ws {s : ByteArray} {i : Nat} {w r : List UInt8} (h : s.data.toList.drop i = (w ++ [32]) ++ r) (hw : 0 < w.length) (hc : ∀ c ∈ w, c ≠ 32 ∧ c ≠ 40 ∧ c ≠ 41) : Spells s i (i + (w.length + 1)) [baL w] := by
  rw [List.append_assoc] at h
  have h1 := Spells.one (tk_word h hw hc (sep_space r))
  have h2 := Spells.skip (tk_space (drop_more h))
  have := h1.app h2
  rw [List.append_nil, Nat.add_assoc] at this
  exact this
theorem text_tks {s : ByteArray} : ∀ (t : Tr) (v i : Nat) (r : List UInt8), t.ok → s.data.toList.drop i = showB t v ++ r → Sep r → Spells s i (i + (showB t v).length) (showW t v)
  | .leaf k n, v, i, r, ho, h, hr => by
    obtain ⟨h1, h2, h3, h4⟩ := ho
    have hmn := (mostN_le k).2
    rw [showB] at h ⊢
    rw [showW]
    have num : ∀ (w : List UInt8), s.data.toList.drop i = (w ++ [32] ++ Lib.decDigits n.toNat) ++ r → 0 < w.length → (∀ c ∈ w, c ≠ 32 ∧ c ≠ 40 ∧ c ≠ 41) → Spells s i (i + (w ++ [32] ++ Lib.decDigits n.toNat).length) [baL w, baL (Lib.decDigits n.toNat)] := fun w h hw hc => by
      have h' : s.data.toList.drop i = (w ++ [32]) ++ (Lib.decDigits n.toNat ++ r) := by rw [h, List.append_assoc]
      have e1 := sp_ws h' hw hc
      have h5 := drop_more h'
      have hl : (w ++ [32]).length = w.length + 1 := by simp
      rw [hl] at h5
      have e2 := Spells.one (tk_word h5 (by rw [dig_one h3 (by omega)]; exact Nat.one_pos) (dig_word h3 (by omega)) hr)
      have e3 := e1.app e2
      rw [List.length_append, hl, ← Nat.add_assoc]
      exact e3
    split
    · rename_i hk
      rw [if_pos hk] at h
      exact num [115, 99, 111, 114, 101] h (by decide) (by decide)
    split
    · rename_i hk hk2
      rw [if_neg hk, if_pos hk2] at h
      exact num [117, 115, 101, 114] h (by decide) (by decide)
    split
    · rename_i hk hk2 hk3
      rw [if_neg hk, if_neg hk2, if_pos hk3] at h
      exact Spells.one (tk_word h (by decide) (by decide) hr)
    · rename_i hk hk2 hk3
      rw [if_neg hk, if_neg hk2, if_neg hk3] at h
      exact Spells.one (tk_word h (by decide) (by decide) hr)
  | .neg t, v, i, r, ho, h, hr => by
    rw [showB, List.append_assoc] at h
    rw [showB, showW, List.length_append]
    have e1 := sp_ws (w := [110, 111, 116]) (r := showB t 2 ++ r) h (by decide) (by decide)
    have h5 := drop_more h
    have e2 := text_tks t 2 _ r ho h5 hr
    have e3 := e1.app e2
    rw [← Nat.add_assoc]
    exact e3
  | .bin k a b, v, i, r, ho, h, hr => by
    have inner : ∀ (i : Nat) (r : List UInt8), s.data.toList.drop i = (showB a (lvK k) ++ (if k = 6 then tAnd else tOr) ++ showB b (lvK k + 1)) ++ r → Sep r →
        Spells s i (i + (showB a (lvK k) ++ (if k = 6 then tAnd else tOr) ++ showB b (lvK k + 1)).length) (showW a (lvK k) ++ (if k = 6 then wAnd else wOr) :: showW b (lvK k + 1)) := fun i r h hr => by
      have sgn : ∀ (w : List UInt8), s.data.toList.drop i = (showB a (lvK k) ++ (32 :: (w ++ [32])) ++ showB b (lvK k + 1)) ++ r → 0 < w.length → (∀ c ∈ w, c ≠ 32 ∧ c ≠ 40 ∧ c ≠ 41) →
          Spells s i (i + (showB a (lvK k) ++ (32 :: (w ++ [32])) ++ showB b (lvK k + 1)).length) (showW a (lvK k) ++ baL w :: showW b (lvK k + 1)) := fun w h hw hc => by
        rw [List.append_assoc, List.append_assoc] at h
        have e1 := text_tks a (lvK k) i _ ho.2.1 h (sep_space _)
        have h5 := drop_more h
        have e2 := Spells.skip (tk_space (r := (w ++ [32]) ++ (showB b (lvK k + 1) ++ r)) h5)
        have h6 := drop_more (a := [32]) (r := (w ++ [32]) ++ (showB b (lvK k + 1) ++ r)) h5
        have e3 := sp_ws h6 hw hc
        have h7 := drop_more h6
        have e4 := text_tks b (lvK k + 1) _ r ho.2.2 h7 hr
        have hl : (w ++ [(32 : UInt8)]).length = w.length + 1 := by simp
        rw [hl] at e4
        have e5 := e1.app (e2.app (e3.app e4))
        rw [List.length_append, List.length_append, List.length_cons, hl]
        have ee : i + (showB a (lvK k)).length + [(32 : UInt8)].length + (w.length + 1) + (showB b (lvK k + 1)).length = i + ((showB a (lvK k)).length + (w.length + 1 + 1) + (showB b (lvK k + 1)).length) := by
          simp only [List.length_cons, List.length_nil]; omega
        rw [ee] at e5
        exact e5
      by_cases hk : k = 6
      · rw [if_pos hk] at h ⊢
        rw [if_pos hk]
        exact sgn [97, 110, 100] h (by decide) (by decide)
      · rw [if_neg hk] at h ⊢
        rw [if_neg hk]
        exact sgn [111, 114] h (by decide) (by decide)
    rw [showB] at h ⊢
    rw [showW]
    by_cases hp : lvK k < v
    · rw [parL, if_pos hp] at h ⊢
      rw [parW, if_pos hp]
      obtain ⟨X, hX⟩ : ∃ X, showB a (lvK k) ++ (if k = 6 then tAnd else tOr) ++ showB b (lvK k + 1) = X := ⟨_, rfl⟩
      rw [hX] at h ⊢
      have e1 := Spells.one (tk_par (c := 40) (r := X ++ [41] ++ r) h (.inl rfl))
      have h5 := drop_more (a := [40]) (r := X ++ [41] ++ r) h
      rw [List.append_assoc] at h5
      have e2 := inner (i + 1) ([41] ++ r) (by rw [hX]; exact h5) (sep_close _)
      rw [hX] at e2
      have h6 := drop_more h5
      have e3 := Spells.one (tk_par (c := 41) h6 (.inr rfl))
      have e4 := e1.app (e2.app e3)
      have ee : i + [(40 : UInt8)].length + X.length + 1 = i + (40 :: (X ++ [41])).length := by simp; omega
      rw [ee] at e4
      exact e4
    · rw [parL, if_neg hp] at h ⊢
      rw [parW, if_neg hp]
      exact inner i r h hr
end Go.Cf
namespace Go.Cf
open Go.RowKit
theorem num_dig {n : Int} (h0 : 0 ≤ n) (h1 : n ≤ 8) : numV (baL (Lib.decDigits n.toNat)) = some n := by
  have hi : Lib.itoa n = Lib.decDigits n.toNat := by rw [Lib.itoa, if_neg (by omega)]
  have ha : Lib.atoiAll (Lib.decDigits n.toNat) = .ok n := by
    rw [dig_one h0 h1]
    obtain ⟨k, rfl⟩ := Int.eq_ofNat_of_zero_le h0
    have hk : k ≤ 8 := by have : (k : Int) ≤ 8 := h1; omega
    match k, hk with
    | 0, _ => rfl
    | 1, _ => rfl
    | 2, _ => rfl
    | 3, _ => rfl
    | 4, _ => rfl
    | 5, _ => rfl
    | 6, _ => rfl
    | 7, _ => rfl
    | 8, _ => rfl
  rw [numV, baL_data, ha]
  exact if_pos hi
section
variable {L : Nat} {p : Nat} {us : List Tk} {σ : List ByteArray} {ω : List Tr} {k : Nat}
theorem op_not : op L ((p, wNot) :: us) .want σ ω k = op L us .want (wNot :: σ) ω k := by rw [op, if_pos rfl]
theorem op_open : op L ((p, wL) :: us) .want σ ω k = op L us .want (wL :: σ) ω (k + 1) := by rw [op, if_neg (show ¬ wL = wNot by decide), if_pos rfl]
theorem op_owners : op L ((p, wOwners) :: us) .want σ ω k = op L us .got σ (.leaf 2 0 :: ω) k := by rw [op, if_neg (show ¬ wOwners = wNot by decide), if_neg (show ¬ wOwners = wL by decide), if_pos rfl]
theorem op_tests : op L ((p, wTests) :: us) .want σ ω k = op L us .got σ (.leaf 3 0 :: ω) k := by rw [op, if_neg (show ¬ wTests = wNot by decide), if_neg (show ¬ wTests = wL by decide), if_neg (show ¬ wTests = wOwners by decide), if_pos rfl]
theorem op_score : op L ((p, wScore) :: us) .want σ ω k = op L us (.num 1) σ ω k := by rw [op, if_neg (show ¬ wScore = wNot by decide), if_neg (show ¬ wScore = wL by decide), if_neg (show ¬ wScore = wOwners by decide), if_neg (show ¬ wScore = wTests by decide), if_pos rfl]
theorem op_user : op L ((p, wUser) :: us) .want σ ω k = op L us (.num 4) σ ω k := by rw [op, if_neg (show ¬ wUser = wNot by decide), if_neg (show ¬ wUser = wL by decide), if_neg (show ¬ wUser = wOwners by decide), if_neg (show ¬ wUser = wTests by decide), if_neg (show ¬ wUser = wScore by decide), if_pos rfl]
theorem op_digit {kd n : Int} (h0 : 0 ≤ n) (h1 : n ≤ mostN kd) : op L ((p, baL (Lib.decDigits n.toNat)) :: us) (.num kd) σ ω k = op L us .got σ (.leaf kd n :: ω) k := by
  have := (mostN_le kd).2
  rw [op, num_dig h0 (by omega)]
  exact if_neg (by omega)
theorem op_close (h : 0 < k) : op L ((p, wR) :: us) .got σ ω k = op L us .got (redW 1 σ ω).1.tail (redW 1 σ ω).2 (k - 1) := by rw [op, if_pos ⟨rfl, h⟩]
theorem op_and : op L ((p, wAnd) :: us) .got σ ω k = op L us .want (wAnd :: (redW 2 σ ω).1) (redW 2 σ ω).2 k := by rw [op, if_neg (fun h => absurd h.1 (show ¬ wAnd = wR by decide)), if_pos rfl]
theorem op_or : op L ((p, wOr) :: us) .got σ ω k = op L us .want (wOr :: (redW 1 σ ω).1) (redW 1 σ ω).2 k := by rw [op, if_neg (fun h => absurd h.1 (show ¬ wOr = wR by decide)), if_neg (show ¬ wOr = wAnd by decide), if_pos rfl]
end
theorem op_show (L : Nat) : ∀ (t : Tr) (v : Nat) (ts rest : List Tk) (σ : List ByteArray) (ω : List Tr) (k : Nat), t.ok → v ≤ 2 → ts.map Prod.snd = showW t v → (v < 2 → LowT (v + 1) σ) → (v = 0 → hd rest ≠ wAnd) →
    op L (ts ++ rest) .want σ ω k = op L rest .got σ (t :: ω) k
  | .leaf kk n, v, ts, rest, σ, ω, k, ho, hv, hts, hl, hr => by
    obtain ⟨h1, h2, h3, h4⟩ := ho
    rw [showW] at hts
    have two : ∀ a b : ByteArray, ts.map Prod.snd = [a, b] → ∃ p q, ts = [(p, a), (q, b)] := fun a b h => by
      obtain ⟨x, l, e1, e2, e3⟩ := List.map_eq_cons_iff.1 h
      obtain ⟨y, l2, e4, e5, e6⟩ := List.map_eq_cons_iff.1 e3
      obtain ⟨x1, x2⟩ := x
      obtain ⟨y1, y2⟩ := y
      cases e2; cases e5
      exact ⟨x1, y1, by rw [e1, e4, List.map_eq_nil_iff.1 e6]⟩
    have one : ∀ a : ByteArray, ts.map Prod.snd = [a] → ∃ p, ts = [(p, a)] := fun a h => by
      obtain ⟨x, l, e1, e2, e3⟩ := List.map_eq_cons_iff.1 h
      obtain ⟨x1, x2⟩ := x
      cases e2
      exact ⟨x1, by rw [e1, List.map_eq_nil_iff.1 e3]⟩
    split at hts
    · rename_i hk
      obtain ⟨p, q, rfl⟩ := two _ _ hts
      subst hk
      exact op_score.trans (op_digit h3 h4)
    split at hts
    · rename_i hk hk2
      obtain ⟨p, q, rfl⟩ := two _ _ hts
      subst hk2
      exact op_user.trans (op_digit h3 h4)
    split at hts
    · rename_i hk hk2 hk3
      obtain ⟨p, rfl⟩ := one _ hts
      subst hk3
      have : n = 0 := by have : mostN 2 = 0 := rfl; omega
      subst this
      exact op_owners
    · rename_i hk hk2 hk3
      obtain ⟨p, rfl⟩ := one _ hts
      obtain rfl : kk = 3 := by omega
      have : n = 0 := by have : mostN 3 = 0 := rfl; omega
      subst this
      exact op_tests
  | .neg t, v, ts, rest, σ, ω, k, ho, hv, hts, hl, hr => by
    rw [showW] at hts
    obtain ⟨x, l, e1, e2, e3⟩ := List.map_eq_cons_iff.1 hts
    obtain ⟨x1, x2⟩ := x
    cases e2
    rw [e1, List.cons_append, op_not, op_show L t 2 l rest _ ω k ho (Nat.le_refl _) e3 (fun h => by omega) (fun h => by omega)]
    rw [← op_red (k := 3) (σ := wNot :: σ) (by omega) (fun _ => by omega)]
    have e : redW 3 (wNot :: σ) (t :: ω) = redW 3 σ (.neg t :: ω) := red_up (by decide) (top_not _ _)
    rw [e, op_red (by omega) (fun _ => by omega)]
  | .bin kk a b, v, ts, rest, σ, ω, k, ho, hv, hts, hl, hr => by
    have hk := ho.1
    have inner : ∀ (ts rest : List Tk) (σ : List ByteArray) (k : Nat), ts.map Prod.snd = showW a (lvK kk) ++ (if kk = 6 then wAnd else wOr) :: showW b (lvK kk + 1) → LowT (lvK kk + 1) σ → (lvK kk = 0 → hd rest ≠ wAnd) →
        op L (ts ++ rest) .want σ ω k = op L rest .got σ (.bin kk a b :: ω) k := fun ts rest σ k hts hl hr => by
      obtain ⟨l1, l2, e1, e2, e3⟩ := List.map_eq_append_iff.1 hts
      obtain ⟨x, l3, e4, e5, e6⟩ := List.map_eq_cons_iff.1 e3
      obtain ⟨x1, x2⟩ := x
      rcases hk with rfl | rfl
      · have e5' : x2 = wAnd := e5
        subst e5'
        have hl2 : LowT 2 σ := hl
        rw [e1, e4, List.append_assoc, op_show L a 1 l1 _ σ ω k ho.2.1 (by omega) e2 (fun _ => hl2) (fun h => by omega), List.cons_append, op_and, red_low hl2]
        simp only
        rw [op_show L b 2 l3 rest _ _ k ho.2.2 (Nat.le_refl _) e6 (fun h => by omega) (fun h => by omega)]
        rw [← op_red (k := 2) (σ := wAnd :: σ) (by omega) (fun _ => Nat.le_refl _)]
        have e : redW 2 (wAnd :: σ) (b :: a :: ω) = redW 2 σ (.bin 6 a b :: ω) := red_up (by decide) rfl
        rw [e, op_red (by omega) (fun _ => Nat.le_refl _)]
      · have e5' : x2 = wOr := e5
        subst e5'
        have hr' : hd rest ≠ wAnd := hr rfl
        have hl1 : LowT 1 σ := hl
        rw [e1, e4, List.append_assoc, op_show L a 0 l1 _ σ ω k ho.2.1 (by omega) e2 (fun _ => hl1) (fun _ => by show wOr ≠ wAnd; decide), List.cons_append, op_or, red_low hl1]
        simp only
        rw [op_show L b 1 l3 rest _ _ k ho.2.2 (by omega) e6 (fun _ => low_of (by decide)) (fun h => by omega)]
        rw [← op_red (k := 1) (σ := wOr :: σ) (Nat.le_refl _) (fun h => absurd h hr')]
        have e : redW 1 (wOr :: σ) (b :: a :: ω) = redW 1 σ (.bin 7 a b :: ω) := red_up (by decide) rfl
        rw [e, op_red (Nat.le_refl _) (fun h => absurd h hr')]
    rw [showW] at hts
    by_cases hp : lvK kk < v
    · rw [parW, if_pos hp] at hts
      obtain ⟨x, l, e1, e2, e3⟩ := List.map_eq_cons_iff.1 hts
      obtain ⟨l1, l2, e4, e5, e6⟩ := List.map_eq_append_iff.1 e3
      obtain ⟨y, l3, e7, e8, e9⟩ := List.map_eq_cons_iff.1 e6
      obtain ⟨x1, x2⟩ := x
      obtain ⟨y1, y2⟩ := y
      cases e2; cases e8
      rw [List.map_eq_nil_iff.1 e9] at e7
      rw [e1, e4, e7, List.cons_append, op_open, List.append_assoc]
      rw [inner l1 _ (wL :: σ) (k + 1) e5 (low_of (show 0 < lvK kk + 1 by omega)) (fun _ => by show wR ≠ wAnd; decide)]
      show op L ((y1, wR) :: rest) .got _ _ _ = _
      rw [op_close (by omega), red_low (low_of (by decide))]
      rfl
    · rw [parW, if_neg hp] at hts
      exact inner ts rest σ k hts (fun s hs => Nat.lt_of_lt_of_le (hl (by have := lvK_is kk; omega) s hs) (by omega)) (fun h => hr (by omega))
theorem read_back {t : Tr} (ho : t.ok) (hsz : (showB t 0).length ≤ 200) : parR (baL (showB t 0)) = madeR t := by
  obtain ⟨s, hs⟩ : ∃ s, baL (showB t 0) = s := ⟨_, rfl⟩
  have hsz2 : s.size = (showB t 0).length := by rw [← hs, baL_size]
  have hd0 : s.data.toList.drop 0 = showB t 0 ++ [] := by rw [← hs, baL_data]; simp
  obtain ⟨ts, e1, e2⟩ := text_tks t 0 0 [] ho hd0 (fun c h => by cases h)
  rw [Nat.zero_add, ← hsz2, tks_nil (i := s.size) (by have := skip_ge s s.size; omega), List.append_nil] at e1
  have h1 := op_show s.size t 0 ts [] [] [] 0 ho (by omega) e2 (fun _ x hx => by cases hx) (fun _ => by show (⟨#[]⟩ : ByteArray) ≠ wAnd; decide)
  rw [List.append_nil] at h1
  have h2 := parse_eq s.size (fuelOf s) (tks s 0) (Nat.le_refl _)
  rw [e1, h1] at h2
  have h3 : op s.size [] .got [] [t] 0 = .ok [t] := rfl
  rw [h3] at h2
  rw [hs, parR, if_neg (by omega), e1]
  cases hr : rd s.size (fuelOf s) 0 none ts with
  | bad c p => rw [hr] at h2; cases h2
  | ok t' us =>
    rw [hr] at h2
    simp only at h2 ⊢
    by_cases hu : us = []
    · rw [if_pos hu] at h2 ⊢
      cases h2; rfl
    · rw [if_neg hu] at h2; cases h2
theorem round_trip {l : List PN} (h : (fmtR l).1.code = 0) : parR (baL (fmtR l).2) = (⟨0, 0⟩, l) := by
  have hp : polF l = ⟨0, 0⟩ := by
    by_cases h0 : polF l = ⟨0, 0⟩
    · exact h0
    · rw [fmtR, if_pos h0] at h
      exact polF_code (fun h9 => h9 h)
  have ht := tree_of hp
  have hF : fmtR l = if 200 < (showB (treeOf l) 0).length then (⟨10, -1⟩, []) else (⟨0, 0⟩, showB (treeOf l) 0) := by rw [fmtR, if_neg (fun h => h hp)]
  by_cases hc : 200 < (showB (treeOf l) 0).length
  · rw [hF, if_pos hc] at h; exact absurd h (by decide)
  · rw [hF, if_neg hc]
    show parR (baL (showB (treeOf l) 0)) = _
    rw [read_back ht.ok (by omega), madeR, if_neg (by have := ht.size; have := ht.depth; omega), ← ht.eq]
end Go.Cf
namespace Go.Cf
theorem fmt_size (l : List PN) : (baL (fmtR l).2).size ≤ 9223372036854775807 := by
  rw [baL_size]
  unfold fmtR
  split
  · exact Nat.zero_le _
  split
  · exact Nat.zero_le _
  · rename_i h1 h2
    show (showB (treeOf l) 0).length ≤ _
    omega
end Go.Cf
namespace Go.Proofs.YtllblbkbglifjaaDoor
open Go.RowKit Go.Cf
set_option maxRecDepth 10000
set_option maxHeartbeats 8000000 in
theorem law32_any (w : World) (A : Option Addr) (c : Nat) (l : List PN) (hl : Rdl w 0 4 pnCells A l) (hlc : l.length ≤ c) (hcm : c ≤ maxLen) (hL : LaidP w) :
    Calls Tryd.prog 5 #[.agg #[.slice A l.length c]] w fun e w' => e = .returned (.bool true) ∧ Below w.heap.size w w' := by
  have hlm : l.length ≤ 9223372036854775807 := by have h9 := Nat.le_trans hlc hcm; unfold maxLen at h9; omega
  have hfl : (baL (fmtR l).2).size ≤ 9223372036854775807 := fmt_size l
  refine gcalls Tryd.func5 rfl Tryd.ntmps5 (Nat.le_of_ble_eq_true rfl) ?_
  refine gfrom [(0, .agg #[_])] ⟨rfl, trivial⟩ fun σ => ?_
  refine gseq fun N1 hN1 => ?_
  refine greg ?_
  refine gop_box (v := .agg #[_]) (cs := #[_]) rfl rfl rfl (fun b1 hb1 => ?_)
  refine gop (y_assign (v := .bool _) rfl) rfl rfl rfl ?_
  refine gops_nil ?_
  refine hN1 _ _ ?_
  refine gT [box b1 _] rfl ?_
  refine gfrom [(1, .pointer _)] ⟨rfl, trivial⟩ fun σ => ?_
  refine gseq fun N2 hN2 => ?_
  refine greg ?_
  refine gop (y_loads (cs := [_]) Tryd.isAgg24 Tryd.sizeOf24 rfl rfl (cells_box 0 rfl)) rfl rfl rfl ?_
  refine gop_pure (e_call (vs := [.agg #[_]]) Tryd.func9 rfl (by kernel_rfl) rfl) (fun w hM => polFormat_any w A c l (hl.base hM) hlc hcm) rfl rfl rfl ?_
  refine gop (y_move (v := .tuple #[.string _, .agg #[_, _]]) rfl) rfl rfl rfl ?_
  refine gop (y_extract (v := .string _) rfl rfl) rfl rfl rfl ?_
  refine gop (y_extract (v := .agg #[_, _]) rfl rfl) rfl rfl rfl ?_
  refine gop_alloc (cs := #[.int .i64 0, .int .i64 0]) Tryd.zeroValue28 rfl rfl (fun b4 hb4 => ?_)
  refine gop (y_assign (v := .string _) rfl) rfl rfl rfl ?_
  refine gop_store 1 (v := .agg #[_, _]) (cs' := #[_, _]) rfl rfl Tryd.sizeOf28 rfl rfl rfl rfl (Nat.le_of_ble_eq_true rfl) rfl rfl ?_
  refine gops_nil ?_
  refine hN2 _ _ ?_
  refine gT [box b1 _, box b4 _] rfl ?_
  refine gfrom [(1, .pointer _), (3, .string _), (4, .pointer _)] ⟨rfl, rfl, rfl, trivial⟩ fun σ => ?_
  refine gseq fun N3 hN3 => ?_
  refine greg ?_
  refine gop (y_move (v := .string _) rfl) rfl rfl rfl ?_
  refine gop_new (fun lo ws v => ∃ v1, v = .tuple #[.agg #[v1], fv (parR (baL (fmtR l).2)).1] ∧ NewL 4 pnCells (parR (baL (fmtR l).2)).2 lo ws v1) (e_call (vs := [.string _]) Tryd.func19 rfl (by kernel_rfl) rfl) (fun w hM => by have hc := polParse_any w (baL (fmtR l).2) (hL.base hM) hfl; exact hc.mono fun _ _ ⟨v1, h1, h2, h3⟩ => ⟨_, h1, h2, v1, rfl, h3⟩) rfl rfl rfl ?_
  rintro _ lo14 ws14 hlo14 ⟨_, rfl, A14, c14, rfl, hcc14, hcm14, hr14⟩
  refine gop (y_move (v := .tuple #[.agg #[.slice _ _ _], .agg #[_, _]]) rfl) rfl rfl rfl ?_
  refine gop (y_extract (v := .agg #[_]) rfl rfl) rfl rfl rfl ?_
  refine gop (y_extract (v := .agg #[_, _]) rfl rfl) rfl rfl rfl ?_
  refine gop_alloc (cs := #[.slice none 0 0]) Tryd.zeroValue24 rfl rfl (fun b5 hb5 => ?_)
  refine gop_alloc (cs := #[.int .i64 0, .int .i64 0]) Tryd.zeroValue28 rfl rfl (fun b6 hb6 => ?_)
  refine gop_store 3 (v := .agg #[_]) (cs' := #[_]) rfl rfl Tryd.sizeOf24 rfl rfl rfl rfl (Nat.le_of_ble_eq_true rfl) rfl rfl ?_
  refine gop_store 4 (v := .agg #[_, _]) (cs' := #[_, _]) rfl rfl Tryd.sizeOf28 rfl rfl rfl rfl (Nat.le_of_ble_eq_true rfl) rfl rfl ?_
  refine gops_nil ?_
  refine hN3 _ _ ?_
  refine gT [box b1 _, box b4 _, seal_ _ _, box b5 _, box b6 _] rfl ?_
  refine gfrom [(1, .pointer _), (4, .pointer _), (5, .pointer _), (6, .pointer _)] ⟨rfl, rfl, rfl, rfl, trivial⟩ fun σ => ?_
  refine gseq fun N4 hN4 => ?_
  refine gseq fun N5 hN5 => ?_
  refine greg ?_
  refine gop_pure (e_call (vs := []) Tryd.func12 rfl (by kernel_rfl) rfl) (fun w hM => policyExample_any w (hL.base hM)) rfl rfl rfl ?_
  refine gop (y_not rfl) rfl rfl rfl ?_
  refine gops_nil ?_
  refine hN5 _ _ ?_
  refine gfrom [(1, .pointer _), (4, .pointer _), (5, .pointer _), (6, .pointer _), (18, .bool _)] ⟨rfl, rfl, rfl, rfl, rfl, trivial⟩ fun σ => ?_
  refine gcond (b := _) rfl (fun hc18 => ?_) (fun hc18 => ?_)
  · 
     exact absurd hc18 (by simp)
  · 
    replace hc18 := not_f hc18
    refine gskip ?_
    refine hN4 _ _ ?_
    refine gfrom [(1, .pointer _), (4, .pointer _), (5, .pointer _), (6, .pointer _)] ⟨rfl, rfl, rfl, rfl, trivial⟩ fun σ => ?_
    refine gseq fun N6 hN6 => ?_
    refine greg ?_
    refine gop (y_fieldAddr_box fa28_0 rfl) rfl rfl rfl ?_
    refine gop (y_load Tryd.isAgg3 rfl (cell_box 1 rfl rfl)) rfl rfl rfl ?_
    refine gop (y_neq rfl rfl) rfl rfl rfl ?_
    refine gop (y_move (v := .bool _) rfl) rfl rfl rfl ?_
    refine gop_if (want := false) rfl rfl rfl rfl rfl rfl (fun hg22 => ?_) (fun hg22 => ?_)
    · 
      have hg22d := Decidable.not_not.1 (of_decide_eq_false hg22)
      refine gop (y_bare (y_fieldAddr_box fa28_0 rfl)) rfl rfl rfl ?_
      refine gop_on rfl rfl rfl rfl hg22 ?_
      refine gop (y_bare (y_load Tryd.isAgg3 rfl (cell_box 4 rfl rfl))) rfl rfl rfl ?_
      refine gop_on rfl rfl rfl rfl hg22 ?_
      refine gop (y_bare (y_eql rfl rfl)) rfl rfl rfl ?_
      refine gop_on rfl rfl rfl rfl hg22 ?_
      refine gop (y_bare (y_move (v := .bool _) rfl)) rfl rfl rfl ?_
      refine gop_if (want := true) rfl rfl rfl rfl rfl rfl (fun hg26 => ?_) (fun hg26 => ?_)
      · 
        have hg26d := of_decide_eq_true hg26
        refine gop (y_bare (y_loads (cs := [_]) Tryd.isAgg24 Tryd.sizeOf24 rfl rfl (cells_box 0 rfl))) rfl rfl rfl ?_
        refine gop_on rfl rfl rfl rfl hg26 ?_
        refine gop (y_bare (y_loads (cs := [_]) Tryd.isAgg24 Tryd.sizeOf24 rfl rfl (cells_box 3 rfl))) rfl rfl rfl ?_
        refine gop_on rfl rfl rfl rfl hg26 ?_
        refine gop_pure (e_call (vs := [.agg #[_], .agg #[_]]) Tryd.func14 rfl (by kernel_rfl) rfl) (fun w hM => refEqPol_any w _ _ _ _ l (parR (baL (fmtR l).2)).2 (hl.base hM) ((hr14.seal_ 2 rfl (Nat.le_refl _) hM).mono (Nat.zero_le _)) (Nat.le_trans hlc hcm)) rfl rfl rfl ?_
        refine gop_on rfl rfl rfl rfl hg22 ?_
        refine gop (y_bare (y_pick_t (v := .bool _) rfl hg26 rfl)) rfl rfl rfl ?_
        refine gop (y_pick_f (v := .bool _) rfl hg22 rfl) rfl rfl rfl ?_
        refine gop (y_assign (v := .bool _) rfl) rfl rfl rfl ?_
        refine gops_nil ?_
        refine hN6 _ _ ?_
        refine gfrom [(2, .bool _)] ⟨rfl, trivial⟩ fun σ => ?_
        refine gret fun w1 hM => ?_
        refine ⟨_, res1 rfl (rt (v := .bool _) rfl), ?_⟩
        first
        | exact ⟨rfl, hM.low⟩
        | exact ⟨by rw [round_trip (by first | assumption | simp_all)]; simp, hM.low⟩
      · 
         exact absurd hg26 (by rw [round_trip (by first | assumption | simp_all)]; simp)
    · 
      have hg22d := of_decide_eq_true hg22
      refine gop_off rfl rfl rfl rfl hg22 rfl rfl ?_
      refine gop_off rfl rfl rfl rfl hg22 rfl rfl ?_
      refine gop_off rfl rfl rfl rfl hg22 rfl rfl ?_
      refine gop_offu rfl rfl rfl rfl rfl rfl ?_
      refine gop_offu rfl rfl rfl rfl rfl rfl ?_
      refine gop_offu rfl rfl rfl rfl rfl rfl ?_
      refine gop_off rfl rfl rfl rfl hg22 rfl rfl ?_
      refine gop (y_pick_t (v := .bool _) rfl hg22 rfl) rfl rfl rfl ?_
      refine gop (y_assign (v := .bool _) rfl) rfl rfl rfl ?_
      refine gops_nil ?_
      refine hN6 _ _ ?_
      refine gfrom [(2, .bool _)] ⟨rfl, trivial⟩ fun σ => ?_
      refine gret fun w1 hM => ?_
      refine ⟨_, res1 rfl (rt (v := .bool _) rfl), ?_⟩
      first
      | exact ⟨rfl, hM.low⟩
      | exact ⟨by rw [round_trip (by first | assumption | simp_all)]; simp, hM.low⟩
end Go.Proofs.YtllblbkbglifjaaDoor
namespace Go.Proofs.YtllblbkbglifjaaDoor
open Go.RowKit Go.Cf
theorem errRow (u : TypeId) (h : Tryd.prog.typeName? 3 u = some "*errors.errorString") : u = 121 := by
  have star : "*" ++ "errors.errorString" = "*errors.errorString" := by decide
  exact typeName_ptr_named (nm := "errors.errorString") (by rw [star]; kernel_rfl) (by kernel_rfl) (by decide) u (by rw [star]; exact h)
theorem laidP_of {W : World} (h : laidMetH Tryd.prog [("math/bits.deBruijn32tab", Rows.laid_math_bits_deBruijn32tab), ("math/bits.deBruijn64tab", Rows.laid_math_bits_deBruijn64tab), ("internal/strconv.uint64pow10", Rows.laid_internal_strconv_uint64pow10), ("strconv.ErrRange", Rows.laid_strconv_ErrRange), ("strconv.ErrSyntax", Rows.laid_strconv_ErrSyntax)] W) : LaidP W := by
  rw [MakeChecks.laidMetH_plain _ _ _ (by kernel_rfl)] at h
  have h2 := h.tail.tail
  have gT : Tryd.prog.globalNamed "internal/strconv.uint64pow10" = some 1 := by kernel_rfl
  have gR : Tryd.prog.globalNamed "strconv.ErrRange" = some 3 := by kernel_rfl
  have gS : Tryd.prog.globalNamed "strconv.ErrSyntax" = some 2 := by kernel_rfl
  have hT : Lib.TabIs Tryd.prog W "internal/strconv.uint64pow10" .u64 Lib.pow10Tab := Lib.tabIs_of_head gT (t := 98) (by kernel_rfl) Tryd.underlying98 Tryd.underlying83 (by kernel_rfl) (by kernel_rfl) h2
  obtain ⟨a1, s1, hv1, -, -, -⟩ := laid_sentinel h2.tail gR (by kernel_rfl) Tryd.underlying87 errRow Tryd.underlying121 Tryd.underlying123 rfl rfl Tryd.underlying9 (by kernel_rfl) (by kernel_rfl)
  obtain ⟨a2, s2, hv2, -, -, -⟩ := laid_sentinel h2.tail.tail gS (by kernel_rfl) Tryd.underlying87 errRow Tryd.underlying121 Tryd.underlying123 rfl rfl Tryd.underlying9 (by kernel_rfl) (by kernel_rfl)
  have c1 : W.cell? ⟨3, 0, none⟩ = some (.iface 121 (.pointer (some a1))) := by have h0 := World.var?_cell gR hv1 0; simpa using h0
  have c2 : W.cell? ⟨2, 0, none⟩ = some (.iface 121 (.pointer (some a2))) := by have h0 := World.var?_cell gS hv2 0; simpa using h0
  have c3 := hT.cell gT 0 (by decide)
  have b1 := World.block_lt_of_cell? W _ c1
  have b2 := World.block_lt_of_cell? W _ c2
  have b3 := World.block_lt_of_cell? W _ c3
  simp only at b1 b2 b3
  exact ⟨hT, ⟨_, _, c2⟩, ⟨_, _, c1⟩, by omega⟩
end Go.Proofs.YtllblbkbglifjaaDoor
namespace Go.Cf
open Go.ChangeShapes Go.WideShapes Go.ChangeAt Go.RowKit Go.Deep
theorem trodAll_below {H : Type} {enc : TypeId × Value → H} {P : Program} (hl : laidOutB P = true) {W W' : World} (hb : Below W.heap.size W W') :
    ∀ {ts : List TypeId} {vs : List Value} {ds : List (DataW H)} {ps : List MemPlace}, (∀ t ∈ ts, P.readableRec t = true ∧ t < P.types.size) → DataW.TrodAll enc P W 0 (fun _ => true) true ts vs ds ps →
      DataW.TrodAll enc P W' 0 (fun b => decide (b < W.heap.size)) true ts vs ds ps
  | [], _, _, _, _, h => by
    obtain ⟨rfl, rfl, rfl⟩ := trodAll_nil h
    exact trodAll_mk0
  | t :: ts, _, _, _, hr, h => by
    obtain ⟨v, vs', d, ds', p, q, rfl, rfl, rfl, h1, h2⟩ := trodAll_cons h
    have lt : ∀ x ∈ p, x.block < W.heap.size := by obtain ⟨m, hm⟩ := h1; exact DataW.trod_lt m _ _ _ hm
    exact trodAll_cons_mk (Below.trod hl (hr t (by simp)).1 (hr t (by simp)).2 h1 hb lt) (trodAll_below hl hb (fun t' ht' => hr t' (by simp [ht'])) h2)
section
variable {H : Type} {enc : TypeId × Value → H} {P : Program} {w : World} {t e : TypeId} {v : Value} {d : DataW H} {p : List MemPlace} {b0 : Nat}
theorem weights_each {ts : List TypeId} {ds : List (DataW H)} {t : TypeId} {d : DataW H} (h : (DataW.weightsEach P (t :: ts) (d :: ds)).all (· ≤ reachBytes) = true) :
    (d.weights P t).all (· ≤ reachBytes) = true ∧ (DataW.weightsEach P ts ds).all (· ≤ reachBytes) = true := by
  simpa [DataW.weightsEach, List.all_append] using h
theorem weights_all {ds : List (DataW H)} (h : (DataW.weightsAll P e ds).all (· ≤ reachBytes) = true) : ∀ d ∈ ds, (d.weights P e).all (· ≤ reachBytes) = true := by
  induction ds with
  | nil => intro d hd; cases hd
  | cons x r ih =>
    simp only [DataW.weightsAll, List.all_append, Bool.and_eq_true] at h
    intro d hd
    rcases List.mem_cons.1 hd with rfl | hd
    · exact h.1
    · exact ih h.2 d hd
theorem weights_get : ∀ {ts : List TypeId} {ds : List (DataW H)}, (DataW.weightsEach P ts ds).all (· ≤ reachBytes) = true → ∀ (i : Nat) (t : TypeId) (d : DataW H), ts[i]? = some t → ds[i]? = some d → (d.weights P t).all (· ≤ reachBytes) = true
  | [], _, _, i, t, d, h1, _ => by simp at h1
  | _ :: _, [], _, i, t, d, _, h2 => by simp at h2
  | t0 :: ts, d0 :: ds, h, 0, t, d, h1, h2 => by
    simp at h1 h2
    subst h1 h2
    exact (weights_each h).1
  | t0 :: ts, d0 :: ds, h, i + 1, t, d, h1, h2 => weights_get (weights_each h).2 i t d (by simpa using h1) (by simpa using h2)
theorem rd_struct {fs : Array Field} {n : Nat} {cs : List Value} {x : DataW H × List MemPlace} (ht : P.underlying t = some (.struct fs)) (h : DataW.trod enc P w 0 (fun _ => true) true n t cs = some x) (hw : (x.1.weights P t).all (· ≤ reachBytes) = true) :
    ∃ m, cs.length = P.cellsOf t ∧ ∀ (i : Nat) (f : Field), fs[i]? = some f → ∃ y, DataW.trod enc P w 0 (fun _ => true) true m f.type ((cs.drop f.offset).take (P.cellsOf f.type)) = some y ∧ (y.1.weights P f.type).all (· ≤ reachBytes) = true := by
  obtain ⟨ys, m, _, hx, hl, hn, hf⟩ := DataW.trod_struct ht h
  refine ⟨m, hl, fun i f hi => ?_⟩
  have hlt : i < fs.size := by
    rcases Nat.lt_or_ge i fs.size with h | h
    · exact h
    · rw [Array.getElem?_eq_none h] at hi; cases hi
  obtain ⟨y, hy⟩ : ∃ y, ys[i]? = some y := ⟨_, List.getElem?_eq_getElem (by omega)⟩
  refine ⟨y, (hf i f hi).trans hy, ?_⟩
  rw [hx] at hw
  simp only [DataW.weights, ht] at hw
  exact weights_get hw i f.type y.1 (by simp [hi]) (by simp [hy])
theorem choose_list {α : Type} (n : Nat) (Q : Nat → α → Prop) (h : ∀ i, i < n → ∃ a, Q i a) : ∃ l : List α, l.length = n ∧ ∀ i a, l[i]? = some a → Q i a := by
  induction n with
  | zero => exact ⟨[], rfl, fun i a h => by simp at h⟩
  | succ n ih =>
    obtain ⟨l, hl, hq⟩ := ih (fun i hi => h i (by omega))
    obtain ⟨a, ha⟩ := h n (by omega)
    refine ⟨l ++ [a], by simp [hl], fun i b hb => ?_⟩
    rcases Nat.lt_or_ge i n with hi | hi
    · rw [List.getElem?_append_left (by omega)] at hb; exact hq i b hb
    · rw [List.getElem?_append_right (by omega), hl] at hb
      have : i - n = 0 := by
        rcases Nat.eq_zero_or_pos (i - n) with h0 | h0
        · exact h0
        · rw [List.getElem?_eq_none (by simp; omega)] at hb; cases hb
      rw [this] at hb
      simp at hb
      have hi' : i = n := by omega
      rw [← hb, hi']; exact ha
theorem rd_cells {α : Type} {f : α → List Value} {size : Nat} {Q : α → Prop} {fuel : Nat} {cs : List Value} {x : DataW H × List MemPlace} (ht : P.underlying t = some (.slice e)) (hC : P.cellsOf e = size)
    (hel : ∀ (n : Nat) (cs : List Value) (x : DataW H × List MemPlace), DataW.trod enc P w 0 (fun _ => true) true n e cs = some x → (x.1.weights P e).all (· ≤ reachBytes) = true → ∃ a, cs = f a ∧ Q a)
    (h : DataW.trod enc P w 0 (fun _ => true) true fuel t cs = some x) (hw : (x.1.weights P t).all (· ≤ reachBytes) = true) :
    ∃ (A : Option Addr) (c : Nat) (l : List α), cs = [.slice A l.length c] ∧ Rdl w 0 size f A l ∧ l.length ≤ c ∧ c ≤ maxLen ∧ (A = none → c = 0) ∧ c * P.bytesOf e ≤ reachBytes ∧ ∀ a ∈ l, Q a := by
  rcases open_slice ht h with ⟨h0, h1⟩ | ⟨a, len, cap, m, n, D, Pl, hcs, hb, hlc, hm, hmm, hx, hi⟩
  · exact ⟨none, 0, [], by simpa using h0, Rdl.nil, Nat.le_refl _, by unfold maxLen; omega, fun _ => rfl, by simp, fun a ha => by cases ha⟩
  · simp only [if_true] at hmm
    obtain rfl : m = cap := hmm
    have hwx : ((DataW.slice ((List.range len).map D) ((List.range (m - len)).map fun j => D (len + j))).weights P t).all (· ≤ reachBytes) = true := by rw [hx] at hw; exact hw
    simp only [DataW.weights, ht, List.all_cons, List.all_append, Bool.and_eq_true, decide_eq_true_eq, List.length_map, List.length_range] at hwx
    obtain ⟨hw1, hw2, _⟩ := hwx
    have hw2' := weights_all hw2
    obtain ⟨l, hl, hq⟩ := choose_list len (fun i a' => Q a' ∧ ∀ j u, (f a')[j]? = some u → w.cell? (a.add (i * size + j)) = some u) (fun i hlt => by
      obtain ⟨cs', hc, ht'⟩ := hi i (by omega)
      obtain ⟨a', he, hqa⟩ := hel n cs' (D i, Pl i) ht' (hw2' (D i) (List.mem_map.2 ⟨i, by simpa using hlt, rfl⟩))
      refine ⟨a', hqa, fun j u hu => ?_⟩
      obtain ⟨_, hcl, hat⟩ := World.cells?_some hc
      rw [← he] at hu
      have hj : j < P.cellsOf e := by
        rcases Nat.lt_or_ge j (P.cellsOf e) with h | h
        · exact h
        · rw [List.getElem?_eq_none (by omega)] at hu; cases hu
      have := hat j hj
      rw [hu, hC, add_add] at this
      exact this)
    have hlm : len + (m - len) = m := by omega
    rw [hlm] at hw1
    refine ⟨some a, m, l, by rw [hcs, hl], fun _ => ⟨a, rfl, Nat.zero_le _, fun k x hk => (hq k x hk).2⟩, by omega, hm, (fun h => by cases h), hw1, fun b hb => ?_⟩
    obtain ⟨k, hk⟩ := List.mem_iff_getElem?.1 hb
    exact (hq k b hk).1
theorem rd_agg {α : Type} {f : α → List Value} {Q : α → Prop} {fs : Array Field} (ht : P.underlying t = some (.struct fs))
    (hel : ∀ (n : Nat) (cs : List Value) (x : DataW H × List MemPlace), DataW.trod enc P w 0 (fun _ => true) true n t cs = some x → (x.1.weights P t).all (· ≤ reachBytes) = true → ∃ a, cs = f a ∧ Q a)
    (hok : Value.okWide P w .any b0 t v) (h : DataW.Trod enc P w 0 (fun _ => true) true t v d p) (hw : (d.weights P t).all (· ≤ reachBytes) = true) : ∃ a, v = .agg (f a).toArray ∧ Q a := by
  obtain ⟨cs, rfl, _⟩ := okWide_struct ht hok
  obtain ⟨fuel, hf⟩ := h
  obtain ⟨a, ha, hq⟩ := hel fuel _ _ hf hw
  refine ⟨a, ?_, hq⟩
  rw [← ha]
  simp [Value.cells]
end
end Go.Cf
namespace Go.Cf
structure PolC where
  A : Option Addr
  c : Nat
  l : List PN
abbrev polCells (a : PolC) : List Value := [.slice a.A a.l.length a.c]
end Go.Cf
namespace Go.Proofs.YtllblbkbglifjaaDoor
open Go.ChangeShapes Go.WideShapes Go.ChangeAt Go.RowKit Go.Cf
set_option maxRecDepth 100000
theorem cp_int : Tryd.prog.cellsOf 3 = 1 := by kernel_rfl
theorem cp_nodes : Tryd.prog.cellsOf 22 = 1 := by kernel_rfl
theorem el_node {H : Type} {enc : TypeId × Value → H} {w : World} : ∀ (n : Nat) (cs : List Value) (x : DataW H × List MemPlace), DataW.trod enc Tryd.prog w 0 (fun _ => true) true n 47 cs = some x →
    (x.1.weights Tryd.prog 47).all (· ≤ reachBytes) = true → ∃ a : PN, cs = pnCells a ∧ True := by
  intro n cs x h hw
  obtain ⟨m, hlen, hf⟩ := rd_struct Tryd.underlying47 h hw
  have hl : cs.length = 4 := hlen.trans (by kernel_rfl)
  match cs, hl with
  | [c0, c1, c2, c3], _ =>
    obtain ⟨y0, f0, _⟩ := hf 0 _ rfl
    obtain ⟨y1, f1, _⟩ := hf 1 _ rfl
    obtain ⟨y2, f2, _⟩ := hf 2 _ rfl
    obtain ⟨y3, f3, _⟩ := hf 3 _ rfl
    simp [cp_int] at f0 f1 f2 f3
    obtain ⟨a0, e0, _, b0⟩ := DataW.trod_int Tryd.underlying3 f0
    obtain ⟨a1, e1, _, b1⟩ := DataW.trod_int Tryd.underlying3 f1
    obtain ⟨a2, e2, _, b2⟩ := DataW.trod_int Tryd.underlying3 f2
    obtain ⟨a3, e3, _, b3⟩ := DataW.trod_int Tryd.underlying3 f3
    simp at e0 e1 e2 e3
    subst e0 e1 e2 e3
    exact ⟨⟨a0, a1, a2, a3⟩, rfl, trivial⟩
theorem el_pol {H : Type} {enc : TypeId × Value → H} {w : World} : ∀ (n : Nat) (cs : List Value) (x : DataW H × List MemPlace), DataW.trod enc Tryd.prog w 0 (fun _ => true) true n 24 cs = some x →
    (x.1.weights Tryd.prog 24).all (· ≤ reachBytes) = true → ∃ a : PolC, cs = polCells a ∧ (Rdl w 0 4 pnCells a.A a.l ∧ a.l.length ≤ a.c ∧ a.c ≤ maxLen) := by
  intro n cs x h hw
  obtain ⟨m, hlen, hf⟩ := rd_struct Tryd.underlying24 h hw
  have hl : cs.length = 1 := hlen.trans (by kernel_rfl)
  match cs, hl with
  | [c0], _ =>
    obtain ⟨y0, f0, w0⟩ := hf 0 _ rfl
    simp [cp_nodes] at f0
    obtain ⟨A1, c1', l1, e1, r1, s1, m1, n1, t1, q1⟩ := rd_cells Tryd.underlying22 (by kernel_rfl) el_node f0 w0
    simp at e1
    subst e1
    exact ⟨⟨A1, c1', l1⟩, rfl, r1, s1, m1⟩
end Go.Proofs.YtllblbkbglifjaaDoor
namespace Go.Cf
open Go.ChangeShapes Go.WideShapes Go.ChangeAt Go.RowKit Go.Deep
theorem law_lift_row {H : Type} {enc : TypeId × Value → H} {C : Checked} {os : Os} {f : FuncId} {fn : Func} {s : OpenSpec} {F : Stop.Interp} {conds : List PathCond} {tb : TypeId} {laid : List (String × DataW Unit)}
    (own : ownKnob C.prog.godebug = none) (started : os.Started) (noInit : C.prog.inits.idxOf? f = none) (hfn : C.prog.funcs[f]? = some fn)
    (witness : ∃ (w : World) (tape : Tape) (i : Input), w.os = os ∧ (w.forCall tape i).Shaped C.prog ∧ i.vars = [] ∧ Input.okWide C.prog (w.forCall tape i) .any w.heap.size f i ∧
      s.preRow enc C.prog fn conds false laid (w.forCall tape i).memory i.args ∧ Assume.holds {} C.prog (lone (Frame.enter C.prog f i.args .normal) [] (w.forCall tape i)))
    (hl : laidOutB C.prog = true) (hread : (fn.params.toList.all fun t => C.prog.readableRec t && decide (t < C.prog.types.size)) = true) (hres : fn.resultTypes = #[tb]) (htb : C.prog.underlying tb = some .bool) (hvars : s.vars = []) (hvars0 : (s.at F).vars = []) (hvt : s.bare.plain.varTypes C.prog = [])
    (hspec : ∀ ds : List (DataW H), ds.length = fn.params.size → ((s.at F).fn H (ds ++ [])).results = [.lit (.bool true)] ∧ ((s.at F).fn H (ds ++ [])).args = ds ∧ ((s.at F).fn H (ds ++ [])).vars = [])
    (contract : ∀ (W : World) (base : Nat) (args : Array Value) (ds : List (DataW H)) (p : List MemPlace),
      (∀ (j : Nat) t v, fn.params[j]? = some t → args[j]? = some v → Value.okWide C.prog W .any base t v) → DataW.TrodAll enc C.prog W 0 (fun _ => true) true fn.params.toList args.toList ds p →
      (DataW.weightsEach C.prog fn.params.toList ds).all (· ≤ reachBytes) = true → (∀ k, s.cond = some k → k H ds = true) → laidMetH C.prog laid W →
      Calls C.prog f args W fun e W' => e = .returned (.bool true) ∧ Below W.heap.size W W') :
    ReturnsInHanded {} C os f .any (s.preRow enc C.prog fn conds false laid) ((s.at F).post enc C.prog fn false true false false) := by
  refine returnsInHanded_of_row own started noInit hfn witness ?_
  intro W base args ds gs before hval hW _ hkk hsz hL _ _
  have hW' := hW
  obtain ⟨p, q, hA, hV, rfl, _, _⟩ := hW
  rw [hvars] at hV
  obtain ⟨rfl, rfl⟩ := trodVars_none hV
  have hlen : ds.length = fn.params.size := by
    have key : ∀ (ts : List TypeId) (vs : List Value) (ds : List (DataW H)) (p : List MemPlace), DataW.TrodAll enc C.prog W 0 (fun _ => true) true ts vs ds p → ds.length = ts.length := by
      intro ts
      induction ts with
      | nil => intro vs ds p h; obtain ⟨_, rfl, _⟩ := trodAll_nil h; rfl
      | cons t ts ih => intro vs ds p h; obtain ⟨v, vs', d, ds', p, q, rfl, rfl, rfl, _, h2⟩ := trodAll_cons h; simp [ih _ _ _ h2]
    rw [key _ _ _ _ hA]; simp
  have hw : (DataW.weightsEach C.prog fn.params.toList ds).all (· ≤ reachBytes) = true := by
    simpa [hvt] using hsz
  refine (contract W base args ds p hval hA hw (fun k hk => by simpa using hkk k hk) hL).mono fun e W' ⟨he, bel⟩ => ?_
  subst he
  obtain ⟨h1, h2, h3⟩ := hspec ds hlen
  have hr : ∀ t ∈ fn.params.toList, C.prog.readableRec t = true ∧ t < C.prog.types.size := by
    intro t ht
    have := List.all_eq_true.1 hread t ht
    simpa using this
  refine ⟨_, rfl, ds, [], p ++ [], [], p, [], hW', ?_, ?_, ?_, World.keptBut_mono (fun x hx => ⟨hx, ?_⟩) (bel.frame (· ∈ p ++ [])), fun h => by cases h⟩
  · rw [h1, hres]; exact trodAll_mk1 (shut_bool htb _)
  · rw [h2]; exact trodAll_below hl bel hr hA
  · rw [h3, hvars0]; rfl
  · right; left; simpa using hx
end Go.Cf
