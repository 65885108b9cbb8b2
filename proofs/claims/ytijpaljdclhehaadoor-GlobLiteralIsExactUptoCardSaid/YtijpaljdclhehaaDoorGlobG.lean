/- walks, printed by program -/
import Derived.Test.YtijpaljdclhehaaDoorGlobF
import Derived.Test.YtijpaljdclhehaaDoorGlobN
namespace Go.Proofs.YtijpaljdclhehaaDoor
open Go.RowKit Go.Cf
set_option maxRecDepth 10000



set_option maxHeartbeats 1000000 in
theorem stars_any (w0 w : World) (b2 b5 g n cap base : Nat) (p : ByteArray) (l : List Bool) (fr : Reg) (hp : p.size ≤ 4000000) (hn : n = p.size + 1) (hl : n = l.length)
    (hfr : ∀ w1, fr.ok w1 → w1.cell? ⟨b2, 0, none⟩ = some (.string p) ∧ w1.cell? ⟨b5, 0, none⟩ = some (.slice (some ⟨g, 0, none⟩) n cap))
    (hM0 : Mem w0 [rowl boolCells base 4 1 (.slice (some ⟨g, 0, none⟩) (n) (cap)) (l), fr] w) :
    Calls Tryd.prog 105 #[.pointer (some ⟨b2, 0, none⟩), .pointer (some ⟨b5, 0, none⟩)] w fun e w' => e = .returned (.tuple #[]) ∧ Mem w0 [rowl boolCells base 4 1 (.slice (some ⟨g, 0, none⟩) (n) (cap)) (starsTo p l p.size), fr] w' := by
  refine gcallsT Tryd.func105 rfl Tryd.ntmps105 (Nat.le_of_ble_eq_true rfl) hM0 ?_
  refine gfrom [(0, .pointer (some _)), (1, .pointer (some _))] ⟨rfl, rfl, trivial⟩ fun σ => ?_
  refine gseq fun N1 hN1 => ?_
  refine greg ?_
  refine gop (y_load Tryd.isAgg9 rfl (fun w hM => (hfr w (hM.ok _ (List.mem_of_getElem? (i := 1) rfl))).1)) rfl rfl rfl ?_
  refine gop (y_lens Tryd.underlying9 rfl) rfl rfl rfl ?_
  refine gop (y_move (v := .int _ _) rfl) rfl rfl rfl ?_
  refine gops_nil ?_
  refine hN1 _ _ ?_
  refine gfrom [(0, .pointer (some _)), (1, .pointer (some _)), (4, .int _ _), (5, .int _ _)] ⟨rfl, rfl, rfl, rfl, trivial⟩ fun σ => ?_
  refine gblock ?_
  refine gfrom2 [(5, .int _ _)] [(0, .pointer (some _)), (1, .pointer (some _)), (4, .int _ _)] ⟨rfl, trivial⟩ ⟨rfl, rfl, rfl, trivial⟩ fun σ => ?_
  refine gloop2 (G := Nat) (fun i => i ≤ p.size) (fun i => p.size - i) (fun i => [(5, .int .i64 (i : Int))]) (fun i => [(0, rowl boolCells base 4 1 (.slice (some ⟨g, 0, none⟩) (n) (cap)) (starsTo p l i))]) (0) ?h0 ⟨rfl, trivial⟩ ⟨rfl, rfl, rfl, trivial⟩ rfl ?round
  case h0 => exact Nat.zero_le _
  case round =>
    intro i hφ σ
    have hi := hφ
    have hL : (starsTo p l i).length = n := by rw [starsTo_len]; exact hl.symm
    refine gT [rowl _ _ _ _ _ _, fr] rfl ?_
    refine gseq fun N2 hN2 => ?_
    refine greg ?_
    refine gop (y_lss rfl rfl) rfl rfl rfl ?_
    refine gops_nil ?_
    refine hN2 _ _ ?_
    refine gfrom [(0, .pointer (some _)), (1, .pointer (some _)), (4, .int _ _), (5, .int _ _), (6, .bool _)] ⟨rfl, rfl, rfl, rfl, rfl, trivial⟩ fun σ => ?_
    refine gseq fun N3 hN3 => ?_
    refine gcond (b := _) rfl (fun hc6 => ?_) (fun hc6 => ?_)
    · -- slot 6 t
      replace hc6 := of_decide_eq_true hc6
      refine gskip ?_
      refine hN3 _ _ ?_
      refine gfrom [(0, .pointer (some _)), (1, .pointer (some _)), (4, .int _ _), (5, .int _ _)] ⟨rfl, rfl, rfl, rfl, trivial⟩ fun σ => ?_
      refine gseq fun N4 hN4 => ?_
      refine gblock ?_
      refine gseq fun N5 hN5 => ?_
      refine greg ?_
      refine gop (y_move (v := .int _ _) rfl) rfl rfl rfl ?_
      refine gop (y_assign (v := .int _ _) rfl) rfl rfl rfl ?_
      refine gops_nil ?_
      refine hN5 _ _ ?_
      refine gfrom [(0, .pointer (some _)), (1, .pointer (some _)), (2, .int _ _), (4, .int _ _), (5, .int _ _)] ⟨rfl, rfl, rfl, rfl, rfl, trivial⟩ fun σ => ?_
      refine gseq fun N6 hN6 => ?_
      refine greg ?_
      refine gop (y_load Tryd.isAgg9 rfl (fun w hM => (hfr w (hM.ok _ (List.mem_of_getElem? (i := 1) rfl))).1)) rfl rfl rfl ?_
      refine gop (y_move (v := .int _ _) rfl) rfl rfl rfl ?_
      refine gop (y_stridx (m := i) Tryd.underlying9 rfl rfl (by omega) (by omega) (by omega)) rfl rfl rfl ?_
      refine gop (y_eql rfl rfl) rfl rfl rfl ?_
      refine gop (y_move (v := .bool _) rfl) rfl rfl rfl ?_
      refine gop_if (want := true) rfl rfl rfl rfl rfl rfl (fun hg12 => ?_) (fun hg12 => ?_)
      · -- guard 12 on
        have hg12d := of_decide_eq_true hg12
        refine gop (y_bare (y_load Tryd.isAgg82 rfl (fun w hM => (hfr w (hM.ok _ (List.mem_of_getElem? (i := 1) rfl))).2))) rfl rfl rfl ?_
        refine gop_on rfl rfl rfl rfl hg12 ?_
        refine gop (y_bare (y_move (v := .int _ _) rfl)) rfl rfl rfl ?_
        refine gop_on rfl rfl rfl rfl hg12 ?_
        refine gop (y_bare (y_indexAddr (m := i) Tryd.underlying82 Tryd.sizeOf4 rfl rfl (by omega) (by omega) (by omega))) rfl rfl rfl ?_
        refine gop_on rfl rfl rfl rfl hg12 ?_
        refine gop (y_bare (y_load Tryd.isAgg4 rfl (cells_rowl 0 (f := boolCells) (l := starsTo p l i) rfl hL.symm (fun _ => rfl) (List.getElem?_eq_getElem (show i < (starsTo p l i).length by omega)) 0 _ rfl))) rfl rfl rfl ?_
        refine gop (y_pick_t (v := .bool _) rfl hg12 rfl) rfl rfl rfl ?_
        refine gops_nil ?_
        refine hN6 _ _ ?_
        refine gfrom [(0, .pointer (some _)), (1, .pointer (some _)), (2, .int _ _), (4, .int _ _), (5, .int _ _), (17, .bool _)] ⟨rfl, rfl, rfl, rfl, rfl, rfl, trivial⟩ fun σ => ?_
        refine gcond (b := _) rfl (fun hc17 => ?_) (fun hc17 => ?_)
        · -- slot 17 t
          refine greg ?_
          refine gop (y_load Tryd.isAgg82 rfl (fun w hM => (hfr w (hM.ok _ (List.mem_of_getElem? (i := 1) rfl))).2)) rfl rfl rfl ?_
          refine gop (y_move (v := .int _ _) rfl) rfl rfl rfl ?_
          refine gop (y_add rfl rfl ⟨by omega, by omega⟩) rfl rfl rfl ?_
          refine gop (y_indexAddr (m := i + 1) Tryd.underlying82 Tryd.sizeOf4 rfl rfl (by omega) (by omega) (by omega)) rfl rfl rfl ?_
          refine gop_store_row 0 (f := boolCells) (l := starsTo p l i) (k := i + 1) (o := 0) (v := .bool _) (a := (starsTo p l i)[i + 1]'(by omega)) (a' := true) (fun _ => rfl) rfl rfl rfl Tryd.sizeOf4 rfl rfl rfl rfl hL.symm (List.getElem?_eq_getElem (by omega)) (Nat.le_of_ble_eq_true rfl) rfl rfl ?_
          refine gops_nil ?_
          refine hN4 _ _ ?_
          refine gT [rowl _ _ _ _ _ _, fr] rfl ?_
          refine gfrom [(0, .pointer (some _)), (1, .pointer (some _)), (4, .int _ _), (5, .int _ _)] ⟨rfl, rfl, rfl, rfl, trivial⟩ fun σ => ?_
          refine greg ?_
          refine gop (y_add rfl rfl ⟨by omega, by omega⟩) rfl rfl rfl ?_
          refine gop (y_move (v := .int _ _) rfl) rfl rfl rfl ?_
          refine gops_nil ?_
          rw [starsTo_yes (by omega) (by rw [List.getElem?_eq_getElem (by omega), hc17])]
          refine gnext2 (i + 1) (by omega) (show i + 1 ≤ _ by omega) ⟨rfl, trivial⟩ ⟨rfl, rfl, rfl, trivial⟩ ⟨_, rfl⟩
        · -- slot 17 f
          refine gskip ?_
          refine hN4 _ _ ?_
          refine gfrom [(0, .pointer (some _)), (1, .pointer (some _)), (4, .int _ _), (5, .int _ _)] ⟨rfl, rfl, rfl, rfl, trivial⟩ fun σ => ?_
          refine greg ?_
          refine gop (y_add rfl rfl ⟨by omega, by omega⟩) rfl rfl rfl ?_
          refine gop (y_move (v := .int _ _) rfl) rfl rfl rfl ?_
          refine gops_nil ?_
          rw [starsTo_no (k := i) (fun h => by have h2 := h.2; rw [List.getElem?_eq_getElem (by omega), hc17] at h2; cases h2)]
          refine gnext2 (i + 1) (by omega) (show i + 1 ≤ _ by omega) ⟨rfl, trivial⟩ ⟨rfl, rfl, rfl, trivial⟩ ⟨_, rfl⟩
      · -- guard 12 off
        have hg12d := of_decide_eq_false hg12
        refine gop_off rfl rfl rfl rfl hg12 rfl rfl ?_
        refine gop_off rfl rfl rfl rfl hg12 rfl rfl ?_
        refine gop_off rfl rfl rfl rfl hg12 rfl rfl ?_
        refine gop (y_pick_f (v := .bool _) rfl hg12 rfl) rfl rfl rfl ?_
        refine gops_nil ?_
        refine hN6 _ _ ?_
        refine gfrom [(0, .pointer (some _)), (1, .pointer (some _)), (2, .int _ _), (4, .int _ _), (5, .int _ _), (17, .bool _)] ⟨rfl, rfl, rfl, rfl, rfl, rfl, trivial⟩ fun σ => ?_
        refine gcond (b := _) rfl (fun hc17 => ?_) (fun hc17 => ?_)
        · -- slot 17 t
          cases hc17
        · -- slot 17 f
          refine gskip ?_
          refine hN4 _ _ ?_
          refine gfrom [(0, .pointer (some _)), (1, .pointer (some _)), (4, .int _ _), (5, .int _ _)] ⟨rfl, rfl, rfl, rfl, trivial⟩ fun σ => ?_
          refine greg ?_
          refine gop (y_add rfl rfl ⟨by omega, by omega⟩) rfl rfl rfl ?_
          refine gop (y_move (v := .int _ _) rfl) rfl rfl rfl ?_
          refine gops_nil ?_
          rw [starsTo_no (k := i) (fun h => hg12d (by omega))]
          refine gnext2 (i + 1) (by omega) (show i + 1 ≤ _ by omega) ⟨rfl, trivial⟩ ⟨rfl, rfl, rfl, trivial⟩ ⟨_, rfl⟩
    · -- slot 6 f
      replace hc6 := of_decide_eq_false hc6
      obtain rfl : i = p.size := by omega
      refine gexit ?_
      intro w1 hM
      refine ⟨_, res0 rfl, ?_⟩
      exact ⟨rfl, hM⟩

set_option maxHeartbeats 2000000 in
theorem name_any (w : World) (p s : ByteArray) (hp : p.size ≤ 4000000) (hs : s.size ≤ 4000000) : Calls Tryd.prog 87 #[.string p, .string s] w fun e w' => e = .returned (.bool (nameM p s)) ∧ Below w.heap.size w w' := by
  refine gcalls Tryd.func87 rfl Tryd.ntmps87 (Nat.le_of_ble_eq_true rfl) ?_
  refine gfrom [(0, .string _), (1, .string _)] ⟨rfl, rfl, trivial⟩ fun σ => ?_
  refine gseq fun N1 hN1 => ?_
  refine greg ?_
  refine gop_box (v := .string _) (cs := #[_]) rfl rfl rfl (fun b2 hb2 => ?_)
  refine gop (y_assign (v := .bool _) rfl) rfl rfl rfl ?_
  refine gops_nil ?_
  refine hN1 _ _ ?_
  refine gT [box b2 _] rfl ?_
  refine gfrom [(1, .string _), (2, .pointer _)] ⟨rfl, rfl, trivial⟩ fun σ => ?_
  refine gseq fun N2 hN2 => ?_
  refine greg ?_
  refine gop (y_load Tryd.isAgg9 rfl (cell_box 0 rfl rfl)) rfl rfl rfl ?_
  refine gop (y_lens Tryd.underlying9 rfl) rfl rfl rfl ?_
  refine gop (y_add rfl rfl ⟨by omega, by omega⟩) rfl rfl rfl ?_
  refine gop_make (f := boolCells) (bytes := 1) (z := .bool false) (false) Tryd.underlying82 (by kernel_rfl) rfl rfl rfl (k := p.size + 1) rfl rfl (by omega) (by simp [maxLen]; omega) rfl (fun b14 hb14 => ?_)
  refine gop_alloc (cs := #[.slice none 0 0]) Tryd.zeroValue82 rfl rfl (fun b5 hb5 => ?_)
  refine gop_store 2 (v := .slice (some _) _ _) (cs' := #[_]) rfl rfl Tryd.sizeOf82 rfl rfl rfl rfl (Nat.le_of_ble_eq_true rfl) rfl rfl ?_
  refine gops_nil ?_
  refine hN2 _ _ ?_
  refine gT [box b2 _, rowl _ _ _ _ _ _, box b5 _] rfl ?_
  refine gfrom [(1, .string _), (2, .pointer _), (5, .pointer _)] ⟨rfl, rfl, rfl, trivial⟩ fun σ => ?_
  refine gseq fun N3 hN3 => ?_
  refine greg ?_
  refine gop (y_load Tryd.isAgg82 rfl (cell_box 2 rfl rfl)) rfl rfl rfl ?_
  refine gop (y_indexAddr Tryd.underlying82 Tryd.sizeOf4 rfl rfl rfl (by omega) (by omega)) rfl rfl rfl ?_
  refine gop_store_row 1 (f := boolCells) (l := List.replicate (p.size + 1) false) (k := 0) (o := 0) (v := .bool _) (a := false) (a' := true) (fun _ => rfl) rfl rfl rfl Tryd.sizeOf4 rfl rfl rfl rfl (by simp) (by simp) (Nat.le_of_ble_eq_true rfl) rfl rfl ?_
  refine gops_nil ?_
  refine hN3 _ _ ?_
  refine gT [box b2 _, rowl _ _ _ _ _ _, box b5 _] rfl ?_
  refine gfrom [(1, .string _), (2, .pointer _), (5, .pointer _)] ⟨rfl, rfl, rfl, trivial⟩ fun σ => ?_
  refine gseq fun N4 hN4 => ?_
  refine greg ?_
  refine gop (y_makeFunc (vs := [.pointer (some ⟨b2, 0, none⟩), .pointer (some ⟨b5, 0, none⟩)]) rfl) rfl rfl rfl ?_
  refine gop (y_assign (v := .func (.func 105) #[] #[.pointer (some ⟨b2, 0, none⟩), .pointer (some ⟨b5, 0, none⟩)]) rfl) rfl rfl rfl ?_
  refine gops_nil ?_
  refine hN4 _ _ ?_
  refine gfrom [(1, .string _), (2, .pointer _), (5, .pointer _), (6, .func (.func 105) #[] #[.pointer (some ⟨b2, 0, none⟩), .pointer (some ⟨b5, 0, none⟩)])] ⟨rfl, rfl, rfl, rfl, trivial⟩ fun σ => ?_
  refine gseq fun N5 hN5 => ?_
  refine greg ?_
  refine gop (y_move (v := .func (.func 105) #[] #[.pointer (some ⟨b2, 0, none⟩), .pointer (some ⟨b5, 0, none⟩)]) rfl) rfl rfl rfl ?_
  refine gop_does1 1 (fun v r G => v = .tuple #[] ∧ r = rowl boolCells w.heap.size 4 1 (.slice (some ⟨b14, 0, none⟩) (p.size + 1) (p.size + 1)) (starsTo p (true :: List.replicate p.size false) p.size) ∧ G = []) (e_callv (vs := []) (cs := [.pointer (some ⟨b2, 0, none⟩), .pointer (some ⟨b5, 0, none⟩)]) rfl Tryd.func105 rfl (by kernel_rfl) rfl) rfl (fun w fr1 hfr hM => (stars_any _ w b2 b5 b14 _ _ _ p _ fr1 hp rfl (by simp) (fun w1 ho => ⟨box_cell (hfr 0 _ rfl (by decide) w1 ho) rfl, box_cell (hfr 2 _ rfl (by decide) w1 ho) rfl⟩) hM).mono fun _ _ ⟨he, hm⟩ => ⟨_, _, [], he, ⟨rfl, rfl, rfl⟩, hm⟩) rfl rfl rfl ?_
  rintro _ _ _ ⟨rfl, rfl, rfl⟩
  refine gops_nil ?_
  refine hN5 _ _ ?_
  refine gT [box b2 _, rowl _ _ _ _ _ _, box b5 _] rfl ?_
  refine gfrom [(1, .string _), (2, .pointer _), (5, .pointer _), (6, .func (.func 105) #[] #[.pointer (some ⟨b2, 0, none⟩), .pointer (some ⟨b5, 0, none⟩)])] ⟨rfl, rfl, rfl, rfl, trivial⟩ fun σ => ?_
  refine gseq fun N6 hN6 => ?_
  refine gseq fun N7 hN7 => ?_
  refine greg ?_
  refine gop (y_move (v := .string _) rfl) rfl rfl rfl ?_
  refine gop (y_lens Tryd.underlying9 rfl) rfl rfl rfl ?_
  refine gop (y_move (v := .int _ _) rfl) rfl rfl rfl ?_
  refine gops_nil ?_
  refine hN7 _ _ ?_
  refine gfrom [(1, .string _), (2, .pointer _), (5, .pointer _), (6, .func (.func 105) #[] #[.pointer (some ⟨b2, 0, none⟩), .pointer (some ⟨b5, 0, none⟩)]), (21, .int _ _), (22, .int _ _)] ⟨rfl, rfl, rfl, rfl, rfl, rfl, trivial⟩ fun σ => ?_
  refine gblock ?_
  refine gfrom2 [(22, .int _ _)] [(1, .string _), (2, .pointer _), (5, .pointer _), (6, .func (.func 105) #[] #[.pointer (some ⟨b2, 0, none⟩), .pointer (some ⟨b5, 0, none⟩)]), (21, .int _ _)] ⟨rfl, trivial⟩ ⟨rfl, rfl, rfl, rfl, rfl, trivial⟩ fun σ => ?_
  refine gloop2 (G := Nat × Nat) (fun (k, g) => k ≤ s.size) (fun (k, g) => s.size - k) (fun (k, g) => [(22, .int .i64 (k : Int))]) (fun (k, g) => [(1, rowl boolCells w.heap.size 4 1 (.slice (some ⟨g, 0, none⟩) (p.size + 1) (p.size + 1)) (nameRun p s k)), (2, box b5 (.cells #[.slice (some ⟨g, 0, none⟩) (p.size + 1) (p.size + 1)] 82))]) ((0, b14)) ?h0 ⟨rfl, trivial⟩ ⟨rfl, rfl, rfl, rfl, rfl, trivial⟩ rfl ?round
  case h0 => exact Nat.zero_le _
  case round =>
    rintro ⟨k, g⟩ hφ σ
    have hk : k ≤ s.size := hφ
    have hR := nameRun_len p s k
    refine gT [box b2 _, rowl _ _ _ _ _ _, box b5 _] rfl ?_
    refine gseq fun N8 hN8 => ?_
    refine greg ?_
    refine gop (y_lss rfl rfl) rfl rfl rfl ?_
    refine gops_nil ?_
    refine hN8 _ _ ?_
    refine gfrom [(1, .string _), (2, .pointer _), (5, .pointer _), (6, .func (.func 105) #[] #[.pointer (some ⟨b2, 0, none⟩), .pointer (some ⟨b5, 0, none⟩)]), (21, .int _ _), (22, .int _ _), (23, .bool _)] ⟨rfl, rfl, rfl, rfl, rfl, rfl, rfl, trivial⟩ fun σ => ?_
    refine gseq fun N9 hN9 => ?_
    refine gcond (b := _) rfl (fun hc23 => ?_) (fun hc23 => ?_)
    · -- slot 23 t
      replace hc23 := of_decide_eq_true hc23
      refine gskip ?_
      refine hN9 _ _ ?_
      refine gfrom [(1, .string _), (2, .pointer _), (5, .pointer _), (6, .func (.func 105) #[] #[.pointer (some ⟨b2, 0, none⟩), .pointer (some ⟨b5, 0, none⟩)]), (21, .int _ _), (22, .int _ _)] ⟨rfl, rfl, rfl, rfl, rfl, rfl, trivial⟩ fun σ => ?_
      refine gseq fun N10 hN10 => ?_
      refine gblock ?_
      refine gseq fun N11 hN11 => ?_
      refine greg ?_
      refine gop (y_move (v := .int _ _) rfl) rfl rfl rfl ?_
      refine gop (y_assign (v := .int _ _) rfl) rfl rfl rfl ?_
      refine gops_nil ?_
      refine hN11 _ _ ?_
      refine gfrom [(1, .string _), (2, .pointer _), (5, .pointer _), (6, .func (.func 105) #[] #[.pointer (some ⟨b2, 0, none⟩), .pointer (some ⟨b5, 0, none⟩)]), (7, .int _ _), (21, .int _ _), (22, .int _ _)] ⟨rfl, rfl, rfl, rfl, rfl, rfl, rfl, trivial⟩ fun σ => ?_
      refine gseq fun N12 hN12 => ?_
      refine greg ?_
      refine gop (y_load Tryd.isAgg9 rfl (cell_box 0 rfl rfl)) rfl rfl rfl ?_
      refine gop (y_lens Tryd.underlying9 rfl) rfl rfl rfl ?_
      refine gop (y_add rfl rfl ⟨by omega, by omega⟩) rfl rfl rfl ?_
      refine gop_make (f := boolCells) (bytes := 1) (z := .bool false) (false) Tryd.underlying82 (by kernel_rfl) rfl rfl rfl (k := p.size + 1) rfl rfl (by omega) (by simp [maxLen]; omega) rfl (fun b28 hb28 => ?_)
      refine gop (y_assign (v := .slice (some _) _ _) rfl) rfl rfl rfl ?_
      refine gops_nil ?_
      refine hN12 _ _ ?_
      refine gT [box b2 _, rowl _ _ _ _ _ _, box b5 _, rowl _ _ _ _ _ _] rfl ?_
      refine gfrom [(1, .string _), (2, .pointer _), (5, .pointer _), (6, .func (.func 105) #[] #[.pointer (some ⟨b2, 0, none⟩), .pointer (some ⟨b5, 0, none⟩)]), (7, .int _ _), (8, .slice (some _) _ _), (21, .int _ _), (22, .int _ _)] ⟨rfl, rfl, rfl, rfl, rfl, rfl, rfl, rfl, trivial⟩ fun σ => ?_
      refine gseq fun N13 hN13 => ?_
      refine gseq fun N14 hN14 => ?_
      refine greg ?_
      refine gop (y_load Tryd.isAgg9 rfl (cell_box 0 rfl rfl)) rfl rfl rfl ?_
      refine gop (y_lens Tryd.underlying9 rfl) rfl rfl rfl ?_
      refine gop (y_move (v := .int _ _) rfl) rfl rfl rfl ?_
      refine gops_nil ?_
      refine hN14 _ _ ?_
      refine gfrom [(1, .string _), (2, .pointer _), (5, .pointer _), (6, .func (.func 105) #[] #[.pointer (some ⟨b2, 0, none⟩), .pointer (some ⟨b5, 0, none⟩)]), (7, .int _ _), (8, .slice (some _) _ _), (21, .int _ _), (22, .int _ _), (30, .int _ _), (31, .int _ _)] ⟨rfl, rfl, rfl, rfl, rfl, rfl, rfl, rfl, rfl, rfl, trivial⟩ fun σ => ?_
      refine gblock ?_
      refine gfrom2 [(31, .int _ _)] [(1, .string _), (2, .pointer _), (5, .pointer _), (6, .func (.func 105) #[] #[.pointer (some ⟨b2, 0, none⟩), .pointer (some ⟨b5, 0, none⟩)]), (7, .int _ _), (8, .slice (some _) _ _), (21, .int _ _), (22, .int _ _), (30, .int _ _)] ⟨rfl, trivial⟩ ⟨rfl, rfl, rfl, rfl, rfl, rfl, rfl, rfl, rfl, trivial⟩ fun σ => ?_
      refine gloop2 (G := Nat) (fun i => i ≤ p.size) (fun i => p.size - i) (fun i => [(31, .int .i64 (i : Int))]) (fun i => [(3, rowl boolCells w.heap.size 4 1 (.slice (some ⟨b28, 0, none⟩) (p.size + 1) (p.size + 1)) (nextTo p (byteAt s k) (nameRun p s k) i))]) (0) ?h0 ⟨rfl, trivial⟩ ⟨rfl, rfl, rfl, rfl, rfl, rfl, rfl, rfl, rfl, trivial⟩ rfl ?round
      case h0 => exact Nat.zero_le _
      case round =>
        intro i hφ σ
        have hi := hφ
        have hL : (nextTo p (byteAt s k) (nameRun p s k) i).length = p.size + 1 := nextTo_len _ _ _ _
        refine gT [box b2 _, rowl _ _ _ _ _ _, box b5 _, rowl _ _ _ _ _ _] rfl ?_
        refine gseq fun N15 hN15 => ?_
        refine greg ?_
        refine gop (y_lss rfl rfl) rfl rfl rfl ?_
        refine gops_nil ?_
        refine hN15 _ _ ?_
        refine gfrom [(1, .string _), (2, .pointer _), (5, .pointer _), (6, .func (.func 105) #[] #[.pointer (some ⟨b2, 0, none⟩), .pointer (some ⟨b5, 0, none⟩)]), (7, .int _ _), (8, .slice (some _) _ _), (21, .int _ _), (22, .int _ _), (30, .int _ _), (31, .int _ _), (32, .bool _)] ⟨rfl, rfl, rfl, rfl, rfl, rfl, rfl, rfl, rfl, rfl, rfl, trivial⟩ fun σ => ?_
        refine gseq fun N16 hN16 => ?_
        refine gcond (b := _) rfl (fun hc32 => ?_) (fun hc32 => ?_)
        · -- slot 32 t
          replace hc32 := of_decide_eq_true hc32
          refine gskip ?_
          refine hN16 _ _ ?_
          refine gfrom [(1, .string _), (2, .pointer _), (5, .pointer _), (6, .func (.func 105) #[] #[.pointer (some ⟨b2, 0, none⟩), .pointer (some ⟨b5, 0, none⟩)]), (7, .int _ _), (8, .slice (some _) _ _), (21, .int _ _), (22, .int _ _), (30, .int _ _), (31, .int _ _)] ⟨rfl, rfl, rfl, rfl, rfl, rfl, rfl, rfl, rfl, rfl, trivial⟩ fun σ => ?_
          refine gseq fun N17 hN17 => ?_
          refine gblock ?_
          refine gseq fun N18 hN18 => ?_
          refine greg ?_
          refine gop (y_move (v := .int _ _) rfl) rfl rfl rfl ?_
          refine gop (y_assign (v := .int _ _) rfl) rfl rfl rfl ?_
          refine gops_nil ?_
          refine hN18 _ _ ?_
          refine gfrom [(1, .string _), (2, .pointer _), (5, .pointer _), (6, .func (.func 105) #[] #[.pointer (some ⟨b2, 0, none⟩), .pointer (some ⟨b5, 0, none⟩)]), (7, .int _ _), (8, .slice (some _) _ _), (9, .int _ _), (21, .int _ _), (22, .int _ _), (30, .int _ _), (31, .int _ _)] ⟨rfl, rfl, rfl, rfl, rfl, rfl, rfl, rfl, rfl, rfl, rfl, trivial⟩ fun σ => ?_
          refine gseq fun N19 hN19 => ?_
          refine greg ?_
          refine gop (y_load Tryd.isAgg9 rfl (cell_box 0 rfl rfl)) rfl rfl rfl ?_
          refine gop (y_move (v := .int _ _) rfl) rfl rfl rfl ?_
          refine gop (y_stridx (m := i) Tryd.underlying9 rfl rfl (by omega) (by omega) (by omega)) rfl rfl rfl ?_
          refine gop (y_assign (v := .int _ _) rfl) rfl rfl rfl ?_
          refine gops_nil ?_
          refine hN19 _ _ ?_
          refine gfrom [(1, .string _), (2, .pointer _), (5, .pointer _), (6, .func (.func 105) #[] #[.pointer (some ⟨b2, 0, none⟩), .pointer (some ⟨b5, 0, none⟩)]), (7, .int _ _), (8, .slice (some _) _ _), (9, .int _ _), (10, .int _ _), (21, .int _ _), (22, .int _ _), (30, .int _ _), (31, .int _ _)] ⟨rfl, rfl, rfl, rfl, rfl, rfl, rfl, rfl, rfl, rfl, rfl, rfl, trivial⟩ fun σ => ?_
          refine gblock ?_
          refine gseq fun N20 hN20 => ?_
          refine greg ?_
          refine gop (y_load Tryd.isAgg82 rfl (cell_box 2 rfl rfl)) rfl rfl rfl ?_
          refine gop (y_move (v := .int _ _) rfl) rfl rfl rfl ?_
          refine gop (y_indexAddr (m := i) Tryd.underlying82 Tryd.sizeOf4 rfl rfl (by omega) (by omega) (by omega)) rfl rfl rfl ?_
          refine gop (y_load Tryd.isAgg4 rfl (cells_rowl 1 (f := boolCells) (l := nameRun p s k) rfl (nameRun_len p s k).symm (fun _ => rfl) (List.getElem?_eq_getElem (show i < (nameRun p s k).length by omega)) 0 _ rfl)) rfl rfl rfl ?_
          refine gop (y_not rfl) rfl rfl rfl ?_
          refine gop (y_assign (v := .bool _) rfl) rfl rfl rfl ?_
          refine gops_nil ?_
          refine hN20 _ _ ?_
          refine gfrom [(1, .string _), (2, .pointer _), (5, .pointer _), (6, .func (.func 105) #[] #[.pointer (some ⟨b2, 0, none⟩), .pointer (some ⟨b5, 0, none⟩)]), (7, .int _ _), (8, .slice (some _) _ _), (9, .int _ _), (10, .int _ _), (21, .int _ _), (22, .int _ _), (30, .int _ _), (31, .int _ _), (37, .bool _)] ⟨rfl, rfl, rfl, rfl, rfl, rfl, rfl, rfl, rfl, rfl, rfl, rfl, rfl, trivial⟩ fun σ => ?_
          refine gcond (b := _) rfl (fun hc37 => ?_) (fun hc37 => ?_)
          · -- slot 37 t
            replace hc37 := not_t hc37
            refine gskip ?_
            refine hN17 _ _ ?_
            refine gfrom [(1, .string _), (2, .pointer _), (5, .pointer _), (6, .func (.func 105) #[] #[.pointer (some ⟨b2, 0, none⟩), .pointer (some ⟨b5, 0, none⟩)]), (7, .int _ _), (8, .slice (some _) _ _), (21, .int _ _), (22, .int _ _), (30, .int _ _), (31, .int _ _)] ⟨rfl, rfl, rfl, rfl, rfl, rfl, rfl, rfl, rfl, rfl, trivial⟩ fun σ => ?_
            refine greg ?_
            refine gop (y_add rfl rfl ⟨by omega, by omega⟩) rfl rfl rfl ?_
            refine gop (y_move (v := .int _ _) rfl) rfl rfl rfl ?_
            refine gops_nil ?_
            rw [nextTo_off (i := i) (by rw [List.getElem?_eq_getElem (by omega), hc37])]
            refine gnext2 (i + 1) (by omega) (show i + 1 ≤ _ by omega) ⟨rfl, trivial⟩ ⟨rfl, rfl, rfl, rfl, rfl, rfl, rfl, rfl, rfl, trivial⟩ ⟨_, rfl⟩
          · -- slot 37 f
            replace hc37 := not_f hc37
            refine gseq fun N21 hN21 => ?_
            refine greg ?_
            refine gop (y_move (v := .int _ _) rfl) rfl rfl rfl ?_
            refine gop (y_eql rfl rfl) rfl rfl rfl ?_
            refine gop (y_assign (v := .bool _) rfl) rfl rfl rfl ?_
            refine gops_nil ?_
            refine hN21 _ _ ?_
            refine gfrom [(1, .string _), (2, .pointer _), (5, .pointer _), (6, .func (.func 105) #[] #[.pointer (some ⟨b2, 0, none⟩), .pointer (some ⟨b5, 0, none⟩)]), (7, .int _ _), (8, .slice (some _) _ _), (9, .int _ _), (10, .int _ _), (21, .int _ _), (22, .int _ _), (30, .int _ _), (31, .int _ _), (43, .bool _)] ⟨rfl, rfl, rfl, rfl, rfl, rfl, rfl, rfl, rfl, rfl, rfl, rfl, rfl, trivial⟩ fun σ => ?_
            refine gcond (b := _) rfl (fun hc43 => ?_) (fun hc43 => ?_)
            · -- slot 43 t
              replace hc43 := of_decide_eq_true hc43
              refine greg ?_
              refine gop (y_move (v := .slice (some _) _ _) rfl) rfl rfl rfl ?_
              refine gop (y_move (v := .int _ _) rfl) rfl rfl rfl ?_
              refine gop (y_indexAddr (m := i) Tryd.underlying82 Tryd.sizeOf4 rfl rfl (by omega) (by omega) (by omega)) rfl rfl rfl ?_
              refine gop_store_row 3 (f := boolCells) (l := nextTo p (byteAt s k) (nameRun p s k) i) (k := i) (o := 0) (v := .bool _) (a := (nextTo p (byteAt s k) (nameRun p s k) i)[i]'(by omega)) (a' := true) (fun _ => rfl) rfl rfl rfl Tryd.sizeOf4 rfl rfl rfl rfl hL.symm (List.getElem?_eq_getElem (by omega)) (Nat.le_of_ble_eq_true rfl) rfl rfl ?_
              refine gops_nil ?_
              refine hN17 _ _ ?_
              refine gT [box b2 _, rowl _ _ _ _ _ _, box b5 _, rowl _ _ _ _ _ _] rfl ?_
              refine gfrom [(1, .string _), (2, .pointer _), (5, .pointer _), (6, .func (.func 105) #[] #[.pointer (some ⟨b2, 0, none⟩), .pointer (some ⟨b5, 0, none⟩)]), (7, .int _ _), (8, .slice (some _) _ _), (21, .int _ _), (22, .int _ _), (30, .int _ _), (31, .int _ _)] ⟨rfl, rfl, rfl, rfl, rfl, rfl, rfl, rfl, rfl, rfl, trivial⟩ fun σ => ?_
              refine greg ?_
              refine gop (y_add rfl rfl ⟨by omega, by omega⟩) rfl rfl rfl ?_
              refine gop (y_move (v := .int _ _) rfl) rfl rfl rfl ?_
              refine gops_nil ?_
              rw [nextTo_star (by rw [List.getElem?_eq_getElem (by omega), hc37]) (by omega)]
              refine gnext2 (i + 1) (by omega) (show i + 1 ≤ _ by omega) ⟨rfl, trivial⟩ ⟨rfl, rfl, rfl, rfl, rfl, rfl, rfl, rfl, rfl, trivial⟩ ⟨_, rfl⟩
            · -- slot 43 f
              replace hc43 := of_decide_eq_false hc43
              refine gseq fun N22 hN22 => ?_
              refine greg ?_
              refine gop (y_move (v := .int _ _) rfl) rfl rfl rfl ?_
              refine gop (y_eql rfl rfl) rfl rfl rfl ?_
              refine gop (y_move (v := .bool _) rfl) rfl rfl rfl ?_
              refine gop_if (want := false) rfl rfl rfl rfl rfl rfl (fun hg52 => ?_) (fun hg52 => ?_)
              · -- guard 52 on
                have hg52d := of_decide_eq_false hg52
                refine gop (y_bare (y_move (v := .int _ _) rfl)) rfl rfl rfl ?_
                refine gop_on rfl rfl rfl rfl hg52 ?_
                refine gop (y_bare (y_move (v := .string _) rfl)) rfl rfl rfl ?_
                refine gop_on rfl rfl rfl rfl hg52 ?_
                refine gop (y_bare (y_move (v := .int _ _) rfl)) rfl rfl rfl ?_
                refine gop_on rfl rfl rfl rfl hg52 ?_
                refine gop (y_bare (y_stridx (m := k) Tryd.underlying9 rfl rfl (by omega) (by omega) (by omega))) rfl rfl rfl ?_
                refine gop_on rfl rfl rfl rfl hg52 ?_
                refine gop (y_bare (y_eql rfl rfl)) rfl rfl rfl ?_
                refine gop (y_pick_f (v := .bool _) rfl hg52 rfl) rfl rfl rfl ?_
                refine gop (y_assign (v := .bool _) rfl) rfl rfl rfl ?_
                refine gops_nil ?_
                refine hN22 _ _ ?_
                refine gfrom [(1, .string _), (2, .pointer _), (5, .pointer _), (6, .func (.func 105) #[] #[.pointer (some ⟨b2, 0, none⟩), .pointer (some ⟨b5, 0, none⟩)]), (7, .int _ _), (8, .slice (some _) _ _), (9, .int _ _), (21, .int _ _), (22, .int _ _), (30, .int _ _), (31, .int _ _), (49, .bool _)] ⟨rfl, rfl, rfl, rfl, rfl, rfl, rfl, rfl, rfl, rfl, rfl, rfl, trivial⟩ fun σ => ?_
                refine gcond (b := _) rfl (fun hc49 => ?_) (fun hc49 => ?_)
                · -- slot 49 t
                  replace hc49 := of_decide_eq_true hc49
                  refine greg ?_
                  refine gop (y_move (v := .slice (some _) _ _) rfl) rfl rfl rfl ?_
                  refine gop (y_move (v := .int _ _) rfl) rfl rfl rfl ?_
                  refine gop (y_add rfl rfl ⟨by omega, by omega⟩) rfl rfl rfl ?_
                  refine gop (y_indexAddr (m := i + 1) Tryd.underlying82 Tryd.sizeOf4 rfl rfl (by omega) (by omega) (by omega)) rfl rfl rfl ?_
                  refine gop_store_row 3 (f := boolCells) (l := nextTo p (byteAt s k) (nameRun p s k) i) (k := i + 1) (o := 0) (v := .bool _) (a := (nextTo p (byteAt s k) (nameRun p s k) i)[i + 1]'(by omega)) (a' := true) (fun _ => rfl) rfl rfl rfl Tryd.sizeOf4 rfl rfl rfl rfl hL.symm (List.getElem?_eq_getElem (by omega)) (Nat.le_of_ble_eq_true rfl) rfl rfl ?_
                  refine gops_nil ?_
                  refine hN17 _ _ ?_
                  refine gT [box b2 _, rowl _ _ _ _ _ _, box b5 _, rowl _ _ _ _ _ _] rfl ?_
                  refine gfrom [(1, .string _), (2, .pointer _), (5, .pointer _), (6, .func (.func 105) #[] #[.pointer (some ⟨b2, 0, none⟩), .pointer (some ⟨b5, 0, none⟩)]), (7, .int _ _), (8, .slice (some _) _ _), (21, .int _ _), (22, .int _ _), (30, .int _ _), (31, .int _ _)] ⟨rfl, rfl, rfl, rfl, rfl, rfl, rfl, rfl, rfl, rfl, trivial⟩ fun σ => ?_
                  refine greg ?_
                  refine gop (y_add rfl rfl ⟨by omega, by omega⟩) rfl rfl rfl ?_
                  refine gop (y_move (v := .int _ _) rfl) rfl rfl rfl ?_
                  refine gops_nil ?_
                  rw [nextTo_char (by rw [List.getElem?_eq_getElem (by omega), hc37]) (by omega) (.inr (by omega))]
                  refine gnext2 (i + 1) (by omega) (show i + 1 ≤ _ by omega) ⟨rfl, trivial⟩ ⟨rfl, rfl, rfl, rfl, rfl, rfl, rfl, rfl, rfl, trivial⟩ ⟨_, rfl⟩
                · -- slot 49 f
                  replace hc49 := of_decide_eq_false hc49
                  refine gskip ?_
                  refine hN17 _ _ ?_
                  refine gfrom [(1, .string _), (2, .pointer _), (5, .pointer _), (6, .func (.func 105) #[] #[.pointer (some ⟨b2, 0, none⟩), .pointer (some ⟨b5, 0, none⟩)]), (7, .int _ _), (8, .slice (some _) _ _), (21, .int _ _), (22, .int _ _), (30, .int _ _), (31, .int _ _)] ⟨rfl, rfl, rfl, rfl, rfl, rfl, rfl, rfl, rfl, rfl, trivial⟩ fun σ => ?_
                  refine greg ?_
                  refine gop (y_add rfl rfl ⟨by omega, by omega⟩) rfl rfl rfl ?_
                  refine gop (y_move (v := .int _ _) rfl) rfl rfl rfl ?_
                  refine gops_nil ?_
                  rw [nextTo_miss (i := i) (by rw [List.getElem?_eq_getElem (by omega), hc37]) (by omega) (by omega)]
                  refine gnext2 (i + 1) (by omega) (show i + 1 ≤ _ by omega) ⟨rfl, trivial⟩ ⟨rfl, rfl, rfl, rfl, rfl, rfl, rfl, rfl, rfl, trivial⟩ ⟨_, rfl⟩
              · -- guard 52 off
                have hg52d := of_decide_eq_true hg52
                refine gop_off rfl rfl rfl rfl hg52 rfl rfl ?_
                refine gop_off rfl rfl rfl rfl hg52 rfl rfl ?_
                refine gop_off rfl rfl rfl rfl hg52 rfl rfl ?_
                refine gop_off rfl rfl rfl rfl hg52 rfl rfl ?_
                refine gop (y_pick_t (v := .bool _) rfl hg52 rfl) rfl rfl rfl ?_
                refine gop (y_assign (v := .bool _) rfl) rfl rfl rfl ?_
                refine gops_nil ?_
                refine hN22 _ _ ?_
                refine gfrom [(1, .string _), (2, .pointer _), (5, .pointer _), (6, .func (.func 105) #[] #[.pointer (some ⟨b2, 0, none⟩), .pointer (some ⟨b5, 0, none⟩)]), (7, .int _ _), (8, .slice (some _) _ _), (9, .int _ _), (21, .int _ _), (22, .int _ _), (30, .int _ _), (31, .int _ _), (49, .bool _)] ⟨rfl, rfl, rfl, rfl, rfl, rfl, rfl, rfl, rfl, rfl, rfl, rfl, trivial⟩ fun σ => ?_
                refine gcond (b := _) rfl (fun hc49 => ?_) (fun hc49 => ?_)
                · -- slot 49 t
                  refine greg ?_
                  refine gop (y_move (v := .slice (some _) _ _) rfl) rfl rfl rfl ?_
                  refine gop (y_move (v := .int _ _) rfl) rfl rfl rfl ?_
                  refine gop (y_add rfl rfl ⟨by omega, by omega⟩) rfl rfl rfl ?_
                  refine gop (y_indexAddr (m := i + 1) Tryd.underlying82 Tryd.sizeOf4 rfl rfl (by omega) (by omega) (by omega)) rfl rfl rfl ?_
                  refine gop_store_row 3 (f := boolCells) (l := nextTo p (byteAt s k) (nameRun p s k) i) (k := i + 1) (o := 0) (v := .bool _) (a := (nextTo p (byteAt s k) (nameRun p s k) i)[i + 1]'(by omega)) (a' := true) (fun _ => rfl) rfl rfl rfl Tryd.sizeOf4 rfl rfl rfl rfl hL.symm (List.getElem?_eq_getElem (by omega)) (Nat.le_of_ble_eq_true rfl) rfl rfl ?_
                  refine gops_nil ?_
                  refine hN17 _ _ ?_
                  refine gT [box b2 _, rowl _ _ _ _ _ _, box b5 _, rowl _ _ _ _ _ _] rfl ?_
                  refine gfrom [(1, .string _), (2, .pointer _), (5, .pointer _), (6, .func (.func 105) #[] #[.pointer (some ⟨b2, 0, none⟩), .pointer (some ⟨b5, 0, none⟩)]), (7, .int _ _), (8, .slice (some _) _ _), (21, .int _ _), (22, .int _ _), (30, .int _ _), (31, .int _ _)] ⟨rfl, rfl, rfl, rfl, rfl, rfl, rfl, rfl, rfl, rfl, trivial⟩ fun σ => ?_
                  refine greg ?_
                  refine gop (y_add rfl rfl ⟨by omega, by omega⟩) rfl rfl rfl ?_
                  refine gop (y_move (v := .int _ _) rfl) rfl rfl rfl ?_
                  refine gops_nil ?_
                  rw [nextTo_char (by rw [List.getElem?_eq_getElem (by omega), hc37]) (by omega) (.inl (by omega))]
                  refine gnext2 (i + 1) (by omega) (show i + 1 ≤ _ by omega) ⟨rfl, trivial⟩ ⟨rfl, rfl, rfl, rfl, rfl, rfl, rfl, rfl, rfl, trivial⟩ ⟨_, rfl⟩
                · -- slot 49 f
                  cases hc49
        · -- slot 32 f
          replace hc32 := of_decide_eq_false hc32
          obtain rfl : i = p.size := by omega
          refine gexit ?_
          refine hN13 _ _ ?_
          refine gfrom [(1, .string _), (2, .pointer _), (5, .pointer _), (6, .func (.func 105) #[] #[.pointer (some ⟨b2, 0, none⟩), .pointer (some ⟨b5, 0, none⟩)]), (8, .slice (some _) _ _), (21, .int _ _), (22, .int _ _)] ⟨rfl, rfl, rfl, rfl, rfl, rfl, rfl, trivial⟩ fun σ => ?_
          refine gseq fun N23 hN23 => ?_
          refine greg ?_
          refine gop (y_move (v := .slice (some _) _ _) rfl) rfl rfl rfl ?_
          refine gop_store 2 (v := .slice (some _) _ _) (cs' := #[_]) rfl rfl Tryd.sizeOf82 rfl rfl rfl rfl (Nat.le_of_ble_eq_true rfl) rfl rfl ?_
          refine gops_nil ?_
          refine hN23 _ _ ?_
          refine gT [box b2 _, rowl _ _ _ _ _ _, box b5 _, rowl _ _ _ _ _ _] rfl ?_
          refine gfrom [(1, .string _), (2, .pointer _), (5, .pointer _), (6, .func (.func 105) #[] #[.pointer (some ⟨b2, 0, none⟩), .pointer (some ⟨b5, 0, none⟩)]), (21, .int _ _), (22, .int _ _)] ⟨rfl, rfl, rfl, rfl, rfl, rfl, trivial⟩ fun σ => ?_
          refine greg ?_
          refine gop (y_move (v := .func (.func 105) #[] #[.pointer (some ⟨b2, 0, none⟩), .pointer (some ⟨b5, 0, none⟩)]) rfl) rfl rfl rfl ?_
          refine gop_does1 3 (fun v r G => v = .tuple #[] ∧ r = rowl boolCells w.heap.size 4 1 (.slice (some ⟨b28, 0, none⟩) (p.size + 1) (p.size + 1)) (starsTo p (nextTo p (byteAt s k) (nameRun p s k) p.size) p.size) ∧ G = []) (e_callv (vs := []) (cs := [.pointer (some ⟨b2, 0, none⟩), .pointer (some ⟨b5, 0, none⟩)]) rfl Tryd.func105 rfl (by kernel_rfl) rfl) rfl (fun w fr1 hfr hM => (stars_any _ w b2 b5 b28 _ _ _ p _ fr1 hp rfl (by rw [nextTo_len]) (fun w1 ho => ⟨box_cell (hfr 0 _ rfl (by decide) w1 ho) rfl, box_cell (hfr 2 _ rfl (by decide) w1 ho) rfl⟩) hM).mono fun _ _ ⟨he, hm⟩ => ⟨_, _, [], he, ⟨rfl, rfl, rfl⟩, hm⟩) rfl rfl rfl ?_
          rintro _ _ _ ⟨rfl, rfl, rfl⟩
          refine gops_nil ?_
          refine hN10 _ _ ?_
          refine gT [box b2 _, rowl _ _ _ _ _ _, box b5 _, rowl _ _ _ _ _ _] rfl ?_
          refine gfrom [(1, .string _), (2, .pointer _), (5, .pointer _), (6, .func (.func 105) #[] #[.pointer (some ⟨b2, 0, none⟩), .pointer (some ⟨b5, 0, none⟩)]), (21, .int _ _), (22, .int _ _)] ⟨rfl, rfl, rfl, rfl, rfl, rfl, trivial⟩ fun σ => ?_
          refine greg ?_
          refine gop (y_add rfl rfl ⟨by omega, by omega⟩) rfl rfl rfl ?_
          refine gop (y_move (v := .int _ _) rfl) rfl rfl rfl ?_
          refine gops_nil ?_
          refine fin_mem _ (weak_perm (List.Perm.cons _ (List.reverse_perm _).symm)) ?_
          refine gnext2 ((k + 1, b28)) (by show s.size - (k + 1) < s.size - k; omega) (show k + 1 ≤ _ by omega) ⟨rfl, trivial⟩ ⟨rfl, rfl, rfl, rfl, rfl, trivial⟩ ⟨_, rfl⟩
    · -- slot 23 f
      replace hc23 := of_decide_eq_false hc23
      obtain rfl : k = s.size := by omega
      refine gexit ?_
      refine hN6 _ _ ?_
      refine gfrom [(2, .pointer _), (5, .pointer _)] ⟨rfl, rfl, trivial⟩ fun σ => ?_
      refine gseq fun N24 hN24 => ?_
      refine greg ?_
      refine gop (y_load Tryd.isAgg82 rfl (cell_box 2 rfl rfl)) rfl rfl rfl ?_
      refine gop (y_load Tryd.isAgg9 rfl (cell_box 0 rfl rfl)) rfl rfl rfl ?_
      refine gop (y_lens Tryd.underlying9 rfl) rfl rfl rfl ?_
      refine gop (y_indexAddr (m := p.size) Tryd.underlying82 Tryd.sizeOf4 rfl rfl (by omega) (by omega) (by omega)) rfl rfl rfl ?_
      refine gop (y_load Tryd.isAgg4 rfl (cells_rowl 1 (f := boolCells) (l := nameRun p s s.size) rfl (nameRun_len p s _).symm (fun _ => rfl) (List.getElem?_eq_getElem (show p.size < (nameRun p s s.size).length by omega)) 0 _ rfl)) rfl rfl rfl ?_
      refine gop (y_assign (v := .bool _) rfl) rfl rfl rfl ?_
      refine gops_nil ?_
      refine hN24 _ _ ?_
      refine gfrom [(4, .bool _)] ⟨rfl, trivial⟩ fun σ => ?_
      refine gret fun w1 hM => ?_
      refine ⟨_, res1 rfl (rt (v := .bool _) rfl), ?_⟩
      exact ⟨by rw [nameM, List.getElem?_eq_getElem (by omega)]; rfl, hM.low⟩
end Go.Proofs.YtijpaljdclhehaaDoor
