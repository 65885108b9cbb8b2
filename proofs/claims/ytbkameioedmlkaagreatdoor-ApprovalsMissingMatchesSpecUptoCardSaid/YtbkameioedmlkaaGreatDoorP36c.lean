/- Own frame, plain models and walks, part 3 (texts of this claim put together). -/
import Derived.Test.YtbkameioedmlkaaGreatDoorP36b
import Derived.ChangeKeysEq
import Derived.Lib.IndexAny
import Derived.Lib.Join
import Derived.Test.YtbkameioedmlkaaGreatDoorProg
namespace Go.Proofs.YtbkameioedmlkaaGreatDoor
open Go.RowKit Go.Cf
set_option maxRecDepth 10000
set_option maxHeartbeats 1000000 in
theorem stars_any (w0 w : World) (b2 b5 g n cap base : Nat) (p : ByteArray) (l : List Bool) (fr : Reg) (hp : p.size ≤ 4000000) (hn : n = p.size + 1) (hl : n = l.length)
    (hfr : ∀ w1, fr.ok w1 → w1.cell? ⟨b2, 0, none⟩ = some (.string p) ∧ w1.cell? ⟨b5, 0, none⟩ = some (.slice (some ⟨g, 0, none⟩) n cap))
    (hM0 : Mem w0 [rowl boolCells base 4 1 (.slice (some ⟨g, 0, none⟩) (n) (cap)) (l), fr] w) :
    Calls Tryz.prog 152 #[.pointer (some ⟨b2, 0, none⟩), .pointer (some ⟨b5, 0, none⟩)] w fun e w' => e = .returned (.tuple #[]) ∧ Mem w0 [rowl boolCells base 4 1 (.slice (some ⟨g, 0, none⟩) (n) (cap)) (starsTo p l p.size), fr] w' := by
  refine gcallsT Tryz.func152 rfl Tryz.ntmps152 (Nat.le_of_ble_eq_true rfl) hM0 ?_
  refine gfrom [(0, .pointer (some _)), (1, .pointer (some _))] ⟨rfl, rfl, trivial⟩ fun σ => ?_
  refine gseq fun N1 hN1 => ?_
  refine greg ?_
  refine gop (y_load Tryz.isAgg9 rfl (fun w hM => (hfr w (hM.ok _ (List.mem_of_getElem? (i := 1) rfl))).1)) rfl rfl rfl ?_
  refine gop (y_lens Tryz.underlying9 rfl) rfl rfl rfl ?_
  refine gop (y_move (v := .int _ _) rfl) rfl rfl rfl ?_
  refine gops_nil ?_
  refine hN1 _ _ ?_
  refine gfrom [(0, .pointer (some _)), (1, .pointer (some _)), (4, .int _ _), (5, .int _ _)] ⟨rfl, rfl, rfl, rfl, trivial⟩ fun σ => ?_
  refine gblock ?_
  refine gfrom2 [(5, .int _ _)] [(0, .pointer (some _)), (1, .pointer (some _)), (4, .int _ _)] ⟨rfl, trivial⟩ ⟨rfl, rfl, rfl, trivial⟩ fun σ => ?_
  refine gloop2 (G := Nat) (fun i => i ≤ p.size) (fun i => p.size - i) (fun i => [(5, .int .i64 (i : Int))]) (fun i => [(0, rowl boolCells base 4 1 (.slice (some ⟨g, 0, none⟩) (n) (cap)) (starsTo p l i))]) (0) ?h0 ⟨rfl, trivial⟩ ⟨rfl, rfl, rfl, trivial⟩ rfl ?round
  case h0 => exact Nat.zero_le _
  case round =>
    intro i hφ σ
    have hi := hφ
    have hL : (starsTo p l i).length = n := by rw [starsTo_len]; exact hl.symm
    refine gT [rowl _ _ _ _ _ _, fr] rfl ?_
    refine gseq fun N2 hN2 => ?_
    refine greg ?_
    refine gop (y_lss rfl rfl) rfl rfl rfl ?_
    refine gops_nil ?_
    refine hN2 _ _ ?_
    refine gfrom [(0, .pointer (some _)), (1, .pointer (some _)), (4, .int _ _), (5, .int _ _), (6, .bool _)] ⟨rfl, rfl, rfl, rfl, rfl, trivial⟩ fun σ => ?_
    refine gseq fun N3 hN3 => ?_
    refine gcond (b := _) rfl (fun hc6 => ?_) (fun hc6 => ?_)
    · 
      replace hc6 := of_decide_eq_true hc6
      refine gskip ?_
      refine hN3 _ _ ?_
      refine gfrom [(0, .pointer (some _)), (1, .pointer (some _)), (4, .int _ _), (5, .int _ _)] ⟨rfl, rfl, rfl, rfl, trivial⟩ fun σ => ?_
      refine gseq fun N4 hN4 => ?_
      refine gblock ?_
      refine gseq fun N5 hN5 => ?_
      refine greg ?_
      refine gop (y_move (v := .int _ _) rfl) rfl rfl rfl ?_
      refine gop (y_assign (v := .int _ _) rfl) rfl rfl rfl ?_
      refine gops_nil ?_
      refine hN5 _ _ ?_
      refine gfrom [(0, .pointer (some _)), (1, .pointer (some _)), (2, .int _ _), (4, .int _ _), (5, .int _ _)] ⟨rfl, rfl, rfl, rfl, rfl, trivial⟩ fun σ => ?_
      refine gseq fun N6 hN6 => ?_
      refine greg ?_
      refine gop (y_load Tryz.isAgg9 rfl (fun w hM => (hfr w (hM.ok _ (List.mem_of_getElem? (i := 1) rfl))).1)) rfl rfl rfl ?_
      refine gop (y_move (v := .int _ _) rfl) rfl rfl rfl ?_
      refine gop (y_stridx (m := i) Tryz.underlying9 rfl rfl (by omega) (by omega) (by omega)) rfl rfl rfl ?_
      refine gop (y_eql rfl rfl) rfl rfl rfl ?_
      refine gop (y_move (v := .bool _) rfl) rfl rfl rfl ?_
      refine gop_if (want := true) rfl rfl rfl rfl rfl rfl (fun hg12 => ?_) (fun hg12 => ?_)
      · 
        have hg12d := of_decide_eq_true hg12
        refine gop (y_bare (y_load Tryz.isAgg46 rfl (fun w hM => (hfr w (hM.ok _ (List.mem_of_getElem? (i := 1) rfl))).2))) rfl rfl rfl ?_
        refine gop_on rfl rfl rfl rfl hg12 ?_
        refine gop (y_bare (y_move (v := .int _ _) rfl)) rfl rfl rfl ?_
        refine gop_on rfl rfl rfl rfl hg12 ?_
        refine gop (y_bare (y_indexAddr (m := i) Tryz.underlying46 Tryz.sizeOf4 rfl rfl (by omega) (by omega) (by omega))) rfl rfl rfl ?_
        refine gop_on rfl rfl rfl rfl hg12 ?_
        refine gop (y_bare (y_load Tryz.isAgg4 rfl (cells_rowl 0 (f := boolCells) (l := starsTo p l i) rfl hL.symm (fun _ => rfl) (List.getElem?_eq_getElem (show i < (starsTo p l i).length by omega)) 0 _ rfl))) rfl rfl rfl ?_
        refine gop (y_pick_t (v := .bool _) rfl hg12 rfl) rfl rfl rfl ?_
        refine gops_nil ?_
        refine hN6 _ _ ?_
        refine gfrom [(0, .pointer (some _)), (1, .pointer (some _)), (2, .int _ _), (4, .int _ _), (5, .int _ _), (17, .bool _)] ⟨rfl, rfl, rfl, rfl, rfl, rfl, trivial⟩ fun σ => ?_
        refine gcond (b := _) rfl (fun hc17 => ?_) (fun hc17 => ?_)
        · 
          refine greg ?_
          refine gop (y_load Tryz.isAgg46 rfl (fun w hM => (hfr w (hM.ok _ (List.mem_of_getElem? (i := 1) rfl))).2)) rfl rfl rfl ?_
          refine gop (y_move (v := .int _ _) rfl) rfl rfl rfl ?_
          refine gop (y_add rfl rfl ⟨by omega, by omega⟩) rfl rfl rfl ?_
          refine gop (y_indexAddr (m := i + 1) Tryz.underlying46 Tryz.sizeOf4 rfl rfl (by omega) (by omega) (by omega)) rfl rfl rfl ?_
          refine gop_store_row 0 (f := boolCells) (l := starsTo p l i) (k := i + 1) (o := 0) (v := .bool _) (a := (starsTo p l i)[i + 1]'(by omega)) (a' := true) (fun _ => rfl) rfl rfl rfl Tryz.sizeOf4 rfl rfl rfl rfl hL.symm (List.getElem?_eq_getElem (by omega)) (Nat.le_of_ble_eq_true rfl) rfl rfl ?_
          refine gops_nil ?_
          refine hN4 _ _ ?_
          refine gT [rowl _ _ _ _ _ _, fr] rfl ?_
          refine gfrom [(0, .pointer (some _)), (1, .pointer (some _)), (4, .int _ _), (5, .int _ _)] ⟨rfl, rfl, rfl, rfl, trivial⟩ fun σ => ?_
          refine greg ?_
          refine gop (y_add rfl rfl ⟨by omega, by omega⟩) rfl rfl rfl ?_
          refine gop (y_move (v := .int _ _) rfl) rfl rfl rfl ?_
          refine gops_nil ?_
          rw [starsTo_yes (by omega) (by rw [List.getElem?_eq_getElem (by omega), hc17])]
          refine gnext2 (i + 1) (by omega) (show i + 1 ≤ _ by omega) ⟨rfl, trivial⟩ ⟨rfl, rfl, rfl, trivial⟩ ⟨_, rfl⟩
        · 
          refine gskip ?_
          refine hN4 _ _ ?_
          refine gfrom [(0, .pointer (some _)), (1, .pointer (some _)), (4, .int _ _), (5, .int _ _)] ⟨rfl, rfl, rfl, rfl, trivial⟩ fun σ => ?_
          refine greg ?_
          refine gop (y_add rfl rfl ⟨by omega, by omega⟩) rfl rfl rfl ?_
          refine gop (y_move (v := .int _ _) rfl) rfl rfl rfl ?_
          refine gops_nil ?_
          rw [starsTo_no (k := i) (fun h => by have h2 := h.2; rw [List.getElem?_eq_getElem (by omega), hc17] at h2; cases h2)]
          refine gnext2 (i + 1) (by omega) (show i + 1 ≤ _ by omega) ⟨rfl, trivial⟩ ⟨rfl, rfl, rfl, trivial⟩ ⟨_, rfl⟩
      · 
        have hg12d := of_decide_eq_false hg12
        refine gop_off rfl rfl rfl rfl hg12 rfl rfl ?_
        refine gop_off rfl rfl rfl rfl hg12 rfl rfl ?_
        refine gop_off rfl rfl rfl rfl hg12 rfl rfl ?_
        refine gop (y_pick_f (v := .bool _) rfl hg12 rfl) rfl rfl rfl ?_
        refine gops_nil ?_
        refine hN6 _ _ ?_
        refine gfrom [(0, .pointer (some _)), (1, .pointer (some _)), (2, .int _ _), (4, .int _ _), (5, .int _ _), (17, .bool _)] ⟨rfl, rfl, rfl, rfl, rfl, rfl, trivial⟩ fun σ => ?_
        refine gcond (b := _) rfl (fun hc17 => ?_) (fun hc17 => ?_)
        · 
          cases hc17
        · 
          refine gskip ?_
          refine hN4 _ _ ?_
          refine gfrom [(0, .pointer (some _)), (1, .pointer (some _)), (4, .int _ _), (5, .int _ _)] ⟨rfl, rfl, rfl, rfl, trivial⟩ fun σ => ?_
          refine greg ?_
          refine gop (y_add rfl rfl ⟨by omega, by omega⟩) rfl rfl rfl ?_
          refine gop (y_move (v := .int _ _) rfl) rfl rfl rfl ?_
          refine gops_nil ?_
          rw [starsTo_no (k := i) (fun h => hg12d (by omega))]
          refine gnext2 (i + 1) (by omega) (show i + 1 ≤ _ by omega) ⟨rfl, trivial⟩ ⟨rfl, rfl, rfl, trivial⟩ ⟨_, rfl⟩
    · 
      replace hc6 := of_decide_eq_false hc6
      obtain rfl : i = p.size := by omega
      refine gexit ?_
      intro w1 hM
      refine ⟨_, res0 rfl, ?_⟩
      exact ⟨rfl, hM⟩
set_option maxHeartbeats 2000000 in
theorem name_any (w : World) (p s : ByteArray) (hp : p.size ≤ 4000000) (hs : s.size ≤ 4000000) : Calls Tryz.prog 133 #[.string p, .string s] w fun e w' => e = .returned (.bool (nameM p s)) ∧ Below w.heap.size w w' := by
  refine gcalls Tryz.func133 rfl Tryz.ntmps133 (Nat.le_of_ble_eq_true rfl) ?_
  refine gfrom [(0, .string _), (1, .string _)] ⟨rfl, rfl, trivial⟩ fun σ => ?_
  refine gseq fun N1 hN1 => ?_
  refine greg ?_
  refine gop_box (v := .string _) (cs := #[_]) rfl rfl rfl (fun b2 hb2 => ?_)
  refine gop (y_assign (v := .bool _) rfl) rfl rfl rfl ?_
  refine gops_nil ?_
  refine hN1 _ _ ?_
  refine gT [box b2 _] rfl ?_
  refine gfrom [(1, .string _), (2, .pointer _)] ⟨rfl, rfl, trivial⟩ fun σ => ?_
  refine gseq fun N2 hN2 => ?_
  refine greg ?_
  refine gop (y_load Tryz.isAgg9 rfl (cell_box 0 rfl rfl)) rfl rfl rfl ?_
  refine gop (y_lens Tryz.underlying9 rfl) rfl rfl rfl ?_
  refine gop (y_add rfl rfl ⟨by omega, by omega⟩) rfl rfl rfl ?_
  refine gop_make (f := boolCells) (bytes := 1) (z := .bool false) (false) Tryz.underlying46 (by kernel_rfl) rfl rfl rfl (k := p.size + 1) rfl rfl (by omega) (by simp [maxLen]; omega) rfl (fun b14 hb14 => ?_)
  refine gop_alloc (cs := #[.slice none 0 0]) Tryz.zeroValue46 rfl rfl (fun b5 hb5 => ?_)
  refine gop_store 2 (v := .slice (some _) _ _) (cs' := #[_]) rfl rfl Tryz.sizeOf46 rfl rfl rfl rfl (Nat.le_of_ble_eq_true rfl) rfl rfl ?_
  refine gops_nil ?_
  refine hN2 _ _ ?_
  refine gT [box b2 _, rowl _ _ _ _ _ _, box b5 _] rfl ?_
  refine gfrom [(1, .string _), (2, .pointer _), (5, .pointer _)] ⟨rfl, rfl, rfl, trivial⟩ fun σ => ?_
  refine gseq fun N3 hN3 => ?_
  refine greg ?_
  refine gop (y_load Tryz.isAgg46 rfl (cell_box 2 rfl rfl)) rfl rfl rfl ?_
  refine gop (y_indexAddr Tryz.underlying46 Tryz.sizeOf4 rfl rfl rfl (by omega) (by omega)) rfl rfl rfl ?_
  refine gop_store_row 1 (f := boolCells) (l := List.replicate (p.size + 1) false) (k := 0) (o := 0) (v := .bool _) (a := false) (a' := true) (fun _ => rfl) rfl rfl rfl Tryz.sizeOf4 rfl rfl rfl rfl (by simp) (by simp) (Nat.le_of_ble_eq_true rfl) rfl rfl ?_
  refine gops_nil ?_
  refine hN3 _ _ ?_
  refine gT [box b2 _, rowl _ _ _ _ _ _, box b5 _] rfl ?_
  refine gfrom [(1, .string _), (2, .pointer _), (5, .pointer _)] ⟨rfl, rfl, rfl, trivial⟩ fun σ => ?_
  refine gseq fun N4 hN4 => ?_
  refine greg ?_
  refine gop (y_makeFunc (vs := [.pointer (some ⟨b2, 0, none⟩), .pointer (some ⟨b5, 0, none⟩)]) rfl) rfl rfl rfl ?_
  refine gop (y_assign (v := .func (.func 152) #[] #[.pointer (some ⟨b2, 0, none⟩), .pointer (some ⟨b5, 0, none⟩)]) rfl) rfl rfl rfl ?_
  refine gops_nil ?_
  refine hN4 _ _ ?_
  refine gfrom [(1, .string _), (2, .pointer _), (5, .pointer _), (6, .func (.func 152) #[] #[.pointer (some ⟨b2, 0, none⟩), .pointer (some ⟨b5, 0, none⟩)])] ⟨rfl, rfl, rfl, rfl, trivial⟩ fun σ => ?_
  refine gseq fun N5 hN5 => ?_
  refine greg ?_
  refine gop (y_move (v := .func (.func 152) #[] #[.pointer (some ⟨b2, 0, none⟩), .pointer (some ⟨b5, 0, none⟩)]) rfl) rfl rfl rfl ?_
  refine gop_does1 1 (fun v r G => v = .tuple #[] ∧ r = rowl boolCells w.heap.size 4 1 (.slice (some ⟨b14, 0, none⟩) (p.size + 1) (p.size + 1)) (starsTo p (true :: List.replicate p.size false) p.size) ∧ G = []) (e_callv (vs := []) (cs := [.pointer (some ⟨b2, 0, none⟩), .pointer (some ⟨b5, 0, none⟩)]) rfl Tryz.func152 rfl (by kernel_rfl) rfl) rfl (fun w fr1 hfr hM => (stars_any _ w b2 b5 b14 _ _ _ p _ fr1 hp rfl (by simp) (fun w1 ho => ⟨box_cell (hfr 0 _ rfl (by decide) w1 ho) rfl, box_cell (hfr 2 _ rfl (by decide) w1 ho) rfl⟩) hM).mono fun _ _ ⟨he, hm⟩ => ⟨_, _, [], he, ⟨rfl, rfl, rfl⟩, hm⟩) rfl rfl rfl ?_
  rintro _ _ _ ⟨rfl, rfl, rfl⟩
  refine gops_nil ?_
  refine hN5 _ _ ?_
  refine gT [box b2 _, rowl _ _ _ _ _ _, box b5 _] rfl ?_
  refine gfrom [(1, .string _), (2, .pointer _), (5, .pointer _), (6, .func (.func 152) #[] #[.pointer (some ⟨b2, 0, none⟩), .pointer (some ⟨b5, 0, none⟩)])] ⟨rfl, rfl, rfl, rfl, trivial⟩ fun σ => ?_
  refine gseq fun N6 hN6 => ?_
  refine gseq fun N7 hN7 => ?_
  refine greg ?_
  refine gop (y_move (v := .string _) rfl) rfl rfl rfl ?_
  refine gop (y_lens Tryz.underlying9 rfl) rfl rfl rfl ?_
  refine gop (y_move (v := .int _ _) rfl) rfl rfl rfl ?_
  refine gops_nil ?_
  refine hN7 _ _ ?_
  refine gfrom [(1, .string _), (2, .pointer _), (5, .pointer _), (6, .func (.func 152) #[] #[.pointer (some ⟨b2, 0, none⟩), .pointer (some ⟨b5, 0, none⟩)]), (21, .int _ _), (22, .int _ _)] ⟨rfl, rfl, rfl, rfl, rfl, rfl, trivial⟩ fun σ => ?_
  refine gblock ?_
  refine gfrom2 [(22, .int _ _)] [(1, .string _), (2, .pointer _), (5, .pointer _), (6, .func (.func 152) #[] #[.pointer (some ⟨b2, 0, none⟩), .pointer (some ⟨b5, 0, none⟩)]), (21, .int _ _)] ⟨rfl, trivial⟩ ⟨rfl, rfl, rfl, rfl, rfl, trivial⟩ fun σ => ?_
  refine gloop2 (G := Nat × Nat) (fun (k, g) => k ≤ s.size) (fun (k, g) => s.size - k) (fun (k, g) => [(22, .int .i64 (k : Int))]) (fun (k, g) => [(1, rowl boolCells w.heap.size 4 1 (.slice (some ⟨g, 0, none⟩) (p.size + 1) (p.size + 1)) (nameRun p s k)), (2, box b5 (.cells #[.slice (some ⟨g, 0, none⟩) (p.size + 1) (p.size + 1)] 46))]) ((0, b14)) ?h0 ⟨rfl, trivial⟩ ⟨rfl, rfl, rfl, rfl, rfl, trivial⟩ rfl ?round
  case h0 => exact Nat.zero_le _
  case round =>
    rintro ⟨k, g⟩ hφ σ
    have hk : k ≤ s.size := hφ
    have hR := nameRun_len p s k
    refine gT [box b2 _, rowl _ _ _ _ _ _, box b5 _] rfl ?_
    refine gseq fun N8 hN8 => ?_
    refine greg ?_
    refine gop (y_lss rfl rfl) rfl rfl rfl ?_
    refine gops_nil ?_
    refine hN8 _ _ ?_
    refine gfrom [(1, .string _), (2, .pointer _), (5, .pointer _), (6, .func (.func 152) #[] #[.pointer (some ⟨b2, 0, none⟩), .pointer (some ⟨b5, 0, none⟩)]), (21, .int _ _), (22, .int _ _), (23, .bool _)] ⟨rfl, rfl, rfl, rfl, rfl, rfl, rfl, trivial⟩ fun σ => ?_
    refine gseq fun N9 hN9 => ?_
    refine gcond (b := _) rfl (fun hc23 => ?_) (fun hc23 => ?_)
    · 
      replace hc23 := of_decide_eq_true hc23
      refine gskip ?_
      refine hN9 _ _ ?_
      refine gfrom [(1, .string _), (2, .pointer _), (5, .pointer _), (6, .func (.func 152) #[] #[.pointer (some ⟨b2, 0, none⟩), .pointer (some ⟨b5, 0, none⟩)]), (21, .int _ _), (22, .int _ _)] ⟨rfl, rfl, rfl, rfl, rfl, rfl, trivial⟩ fun σ => ?_
      refine gseq fun N10 hN10 => ?_
      refine gblock ?_
      refine gseq fun N11 hN11 => ?_
      refine greg ?_
      refine gop (y_move (v := .int _ _) rfl) rfl rfl rfl ?_
      refine gop (y_assign (v := .int _ _) rfl) rfl rfl rfl ?_
      refine gops_nil ?_
      refine hN11 _ _ ?_
      refine gfrom [(1, .string _), (2, .pointer _), (5, .pointer _), (6, .func (.func 152) #[] #[.pointer (some ⟨b2, 0, none⟩), .pointer (some ⟨b5, 0, none⟩)]), (7, .int _ _), (21, .int _ _), (22, .int _ _)] ⟨rfl, rfl, rfl, rfl, rfl, rfl, rfl, trivial⟩ fun σ => ?_
      refine gseq fun N12 hN12 => ?_
      refine greg ?_
      refine gop (y_load Tryz.isAgg9 rfl (cell_box 0 rfl rfl)) rfl rfl rfl ?_
      refine gop (y_lens Tryz.underlying9 rfl) rfl rfl rfl ?_
      refine gop (y_add rfl rfl ⟨by omega, by omega⟩) rfl rfl rfl ?_
      refine gop_make (f := boolCells) (bytes := 1) (z := .bool false) (false) Tryz.underlying46 (by kernel_rfl) rfl rfl rfl (k := p.size + 1) rfl rfl (by omega) (by simp [maxLen]; omega) rfl (fun b28 hb28 => ?_)
      refine gop (y_assign (v := .slice (some _) _ _) rfl) rfl rfl rfl ?_
      refine gops_nil ?_
      refine hN12 _ _ ?_
      refine gT [box b2 _, rowl _ _ _ _ _ _, box b5 _, rowl _ _ _ _ _ _] rfl ?_
      refine gfrom [(1, .string _), (2, .pointer _), (5, .pointer _), (6, .func (.func 152) #[] #[.pointer (some ⟨b2, 0, none⟩), .pointer (some ⟨b5, 0, none⟩)]), (7, .int _ _), (8, .slice (some _) _ _), (21, .int _ _), (22, .int _ _)] ⟨rfl, rfl, rfl, rfl, rfl, rfl, rfl, rfl, trivial⟩ fun σ => ?_
      refine gseq fun N13 hN13 => ?_
      refine gseq fun N14 hN14 => ?_
      refine greg ?_
      refine gop (y_load Tryz.isAgg9 rfl (cell_box 0 rfl rfl)) rfl rfl rfl ?_
      refine gop (y_lens Tryz.underlying9 rfl) rfl rfl rfl ?_
      refine gop (y_move (v := .int _ _) rfl) rfl rfl rfl ?_
      refine gops_nil ?_
      refine hN14 _ _ ?_
      refine gfrom [(1, .string _), (2, .pointer _), (5, .pointer _), (6, .func (.func 152) #[] #[.pointer (some ⟨b2, 0, none⟩), .pointer (some ⟨b5, 0, none⟩)]), (7, .int _ _), (8, .slice (some _) _ _), (21, .int _ _), (22, .int _ _), (30, .int _ _), (31, .int _ _)] ⟨rfl, rfl, rfl, rfl, rfl, rfl, rfl, rfl, rfl, rfl, trivial⟩ fun σ => ?_
      refine gblock ?_
      refine gfrom2 [(31, .int _ _)] [(1, .string _), (2, .pointer _), (5, .pointer _), (6, .func (.func 152) #[] #[.pointer (some ⟨b2, 0, none⟩), .pointer (some ⟨b5, 0, none⟩)]), (7, .int _ _), (8, .slice (some _) _ _), (21, .int _ _), (22, .int _ _), (30, .int _ _)] ⟨rfl, trivial⟩ ⟨rfl, rfl, rfl, rfl, rfl, rfl, rfl, rfl, rfl, trivial⟩ fun σ => ?_
      refine gloop2 (G := Nat) (fun i => i ≤ p.size) (fun i => p.size - i) (fun i => [(31, .int .i64 (i : Int))]) (fun i => [(3, rowl boolCells w.heap.size 4 1 (.slice (some ⟨b28, 0, none⟩) (p.size + 1) (p.size + 1)) (nextTo p (byteAt s k) (nameRun p s k) i))]) (0) ?h0 ⟨rfl, trivial⟩ ⟨rfl, rfl, rfl, rfl, rfl, rfl, rfl, rfl, rfl, trivial⟩ rfl ?round
      case h0 => exact Nat.zero_le _
      case round =>
        intro i hφ σ
        have hi := hφ
        have hL : (nextTo p (byteAt s k) (nameRun p s k) i).length = p.size + 1 := nextTo_len _ _ _ _
        refine gT [box b2 _, rowl _ _ _ _ _ _, box b5 _, rowl _ _ _ _ _ _] rfl ?_
        refine gseq fun N15 hN15 => ?_
        refine greg ?_
        refine gop (y_lss rfl rfl) rfl rfl rfl ?_
        refine gops_nil ?_
        refine hN15 _ _ ?_
        refine gfrom [(1, .string _), (2, .pointer _), (5, .pointer _), (6, .func (.func 152) #[] #[.pointer (some ⟨b2, 0, none⟩), .pointer (some ⟨b5, 0, none⟩)]), (7, .int _ _), (8, .slice (some _) _ _), (21, .int _ _), (22, .int _ _), (30, .int _ _), (31, .int _ _), (32, .bool _)] ⟨rfl, rfl, rfl, rfl, rfl, rfl, rfl, rfl, rfl, rfl, rfl, trivial⟩ fun σ => ?_
        refine gseq fun N16 hN16 => ?_
        refine gcond (b := _) rfl (fun hc32 => ?_) (fun hc32 => ?_)
        · 
          replace hc32 := of_decide_eq_true hc32
          refine gskip ?_
          refine hN16 _ _ ?_
          refine gfrom [(1, .string _), (2, .pointer _), (5, .pointer _), (6, .func (.func 152) #[] #[.pointer (some ⟨b2, 0, none⟩), .pointer (some ⟨b5, 0, none⟩)]), (7, .int _ _), (8, .slice (some _) _ _), (21, .int _ _), (22, .int _ _), (30, .int _ _), (31, .int _ _)] ⟨rfl, rfl, rfl, rfl, rfl, rfl, rfl, rfl, rfl, rfl, trivial⟩ fun σ => ?_
          refine gseq fun N17 hN17 => ?_
          refine gblock ?_
          refine gseq fun N18 hN18 => ?_
          refine greg ?_
          refine gop (y_move (v := .int _ _) rfl) rfl rfl rfl ?_
          refine gop (y_assign (v := .int _ _) rfl) rfl rfl rfl ?_
          refine gops_nil ?_
          refine hN18 _ _ ?_
          refine gfrom [(1, .string _), (2, .pointer _), (5, .pointer _), (6, .func (.func 152) #[] #[.pointer (some ⟨b2, 0, none⟩), .pointer (some ⟨b5, 0, none⟩)]), (7, .int _ _), (8, .slice (some _) _ _), (9, .int _ _), (21, .int _ _), (22, .int _ _), (30, .int _ _), (31, .int _ _)] ⟨rfl, rfl, rfl, rfl, rfl, rfl, rfl, rfl, rfl, rfl, rfl, trivial⟩ fun σ => ?_
          refine gseq fun N19 hN19 => ?_
          refine greg ?_
          refine gop (y_load Tryz.isAgg9 rfl (cell_box 0 rfl rfl)) rfl rfl rfl ?_
          refine gop (y_move (v := .int _ _) rfl) rfl rfl rfl ?_
          refine gop (y_stridx (m := i) Tryz.underlying9 rfl rfl (by omega) (by omega) (by omega)) rfl rfl rfl ?_
          refine gop (y_assign (v := .int _ _) rfl) rfl rfl rfl ?_
          refine gops_nil ?_
          refine hN19 _ _ ?_
          refine gfrom [(1, .string _), (2, .pointer _), (5, .pointer _), (6, .func (.func 152) #[] #[.pointer (some ⟨b2, 0, none⟩), .pointer (some ⟨b5, 0, none⟩)]), (7, .int _ _), (8, .slice (some _) _ _), (9, .int _ _), (10, .int _ _), (21, .int _ _), (22, .int _ _), (30, .int _ _), (31, .int _ _)] ⟨rfl, rfl, rfl, rfl, rfl, rfl, rfl, rfl, rfl, rfl, rfl, rfl, trivial⟩ fun σ => ?_
          refine gblock ?_
          refine gseq fun N20 hN20 => ?_
          refine greg ?_
          refine gop (y_load Tryz.isAgg46 rfl (cell_box 2 rfl rfl)) rfl rfl rfl ?_
          refine gop (y_move (v := .int _ _) rfl) rfl rfl rfl ?_
          refine gop (y_indexAddr (m := i) Tryz.underlying46 Tryz.sizeOf4 rfl rfl (by omega) (by omega) (by omega)) rfl rfl rfl ?_
          refine gop (y_load Tryz.isAgg4 rfl (cells_rowl 1 (f := boolCells) (l := nameRun p s k) rfl (nameRun_len p s k).symm (fun _ => rfl) (List.getElem?_eq_getElem (show i < (nameRun p s k).length by omega)) 0 _ rfl)) rfl rfl rfl ?_
          refine gop (y_not rfl) rfl rfl rfl ?_
          refine gop (y_assign (v := .bool _) rfl) rfl rfl rfl ?_
          refine gops_nil ?_
          refine hN20 _ _ ?_
          refine gfrom [(1, .string _), (2, .pointer _), (5, .pointer _), (6, .func (.func 152) #[] #[.pointer (some ⟨b2, 0, none⟩), .pointer (some ⟨b5, 0, none⟩)]), (7, .int _ _), (8, .slice (some _) _ _), (9, .int _ _), (10, .int _ _), (21, .int _ _), (22, .int _ _), (30, .int _ _), (31, .int _ _), (37, .bool _)] ⟨rfl, rfl, rfl, rfl, rfl, rfl, rfl, rfl, rfl, rfl, rfl, rfl, rfl, trivial⟩ fun σ => ?_
          refine gcond (b := _) rfl (fun hc37 => ?_) (fun hc37 => ?_)
          · 
            replace hc37 := not_t hc37
            refine gskip ?_
            refine hN17 _ _ ?_
            refine gfrom [(1, .string _), (2, .pointer _), (5, .pointer _), (6, .func (.func 152) #[] #[.pointer (some ⟨b2, 0, none⟩), .pointer (some ⟨b5, 0, none⟩)]), (7, .int _ _), (8, .slice (some _) _ _), (21, .int _ _), (22, .int _ _), (30, .int _ _), (31, .int _ _)] ⟨rfl, rfl, rfl, rfl, rfl, rfl, rfl, rfl, rfl, rfl, trivial⟩ fun σ => ?_
            refine greg ?_
            refine gop (y_add rfl rfl ⟨by omega, by omega⟩) rfl rfl rfl ?_
            refine gop (y_move (v := .int _ _) rfl) rfl rfl rfl ?_
            refine gops_nil ?_
            rw [nextTo_off (i := i) (by rw [List.getElem?_eq_getElem (by omega), hc37])]
            refine gnext2 (i + 1) (by omega) (show i + 1 ≤ _ by omega) ⟨rfl, trivial⟩ ⟨rfl, rfl, rfl, rfl, rfl, rfl, rfl, rfl, rfl, trivial⟩ ⟨_, rfl⟩
          · 
            replace hc37 := not_f hc37
            refine gseq fun N21 hN21 => ?_
            refine greg ?_
            refine gop (y_move (v := .int _ _) rfl) rfl rfl rfl ?_
            refine gop (y_eql rfl rfl) rfl rfl rfl ?_
            refine gop (y_assign (v := .bool _) rfl) rfl rfl rfl ?_
            refine gops_nil ?_
            refine hN21 _ _ ?_
            refine gfrom [(1, .string _), (2, .pointer _), (5, .pointer _), (6, .func (.func 152) #[] #[.pointer (some ⟨b2, 0, none⟩), .pointer (some ⟨b5, 0, none⟩)]), (7, .int _ _), (8, .slice (some _) _ _), (9, .int _ _), (10, .int _ _), (21, .int _ _), (22, .int _ _), (30, .int _ _), (31, .int _ _), (43, .bool _)] ⟨rfl, rfl, rfl, rfl, rfl, rfl, rfl, rfl, rfl, rfl, rfl, rfl, rfl, trivial⟩ fun σ => ?_
            refine gcond (b := _) rfl (fun hc43 => ?_) (fun hc43 => ?_)
            · 
              replace hc43 := of_decide_eq_true hc43
              refine greg ?_
              refine gop (y_move (v := .slice (some _) _ _) rfl) rfl rfl rfl ?_
              refine gop (y_move (v := .int _ _) rfl) rfl rfl rfl ?_
              refine gop (y_indexAddr (m := i) Tryz.underlying46 Tryz.sizeOf4 rfl rfl (by omega) (by omega) (by omega)) rfl rfl rfl ?_
              refine gop_store_row 3 (f := boolCells) (l := nextTo p (byteAt s k) (nameRun p s k) i) (k := i) (o := 0) (v := .bool _) (a := (nextTo p (byteAt s k) (nameRun p s k) i)[i]'(by omega)) (a' := true) (fun _ => rfl) rfl rfl rfl Tryz.sizeOf4 rfl rfl rfl rfl hL.symm (List.getElem?_eq_getElem (by omega)) (Nat.le_of_ble_eq_true rfl) rfl rfl ?_
              refine gops_nil ?_
              refine hN17 _ _ ?_
              refine gT [box b2 _, rowl _ _ _ _ _ _, box b5 _, rowl _ _ _ _ _ _] rfl ?_
              refine gfrom [(1, .string _), (2, .pointer _), (5, .pointer _), (6, .func (.func 152) #[] #[.pointer (some ⟨b2, 0, none⟩), .pointer (some ⟨b5, 0, none⟩)]), (7, .int _ _), (8, .slice (some _) _ _), (21, .int _ _), (22, .int _ _), (30, .int _ _), (31, .int _ _)] ⟨rfl, rfl, rfl, rfl, rfl, rfl, rfl, rfl, rfl, rfl, trivial⟩ fun σ => ?_
              refine greg ?_
              refine gop (y_add rfl rfl ⟨by omega, by omega⟩) rfl rfl rfl ?_
              refine gop (y_move (v := .int _ _) rfl) rfl rfl rfl ?_
              refine gops_nil ?_
              rw [nextTo_star (by rw [List.getElem?_eq_getElem (by omega), hc37]) (by omega)]
              refine gnext2 (i + 1) (by omega) (show i + 1 ≤ _ by omega) ⟨rfl, trivial⟩ ⟨rfl, rfl, rfl, rfl, rfl, rfl, rfl, rfl, rfl, trivial⟩ ⟨_, rfl⟩
            · 
              replace hc43 := of_decide_eq_false hc43
              refine gseq fun N22 hN22 => ?_
              refine greg ?_
              refine gop (y_move (v := .int _ _) rfl) rfl rfl rfl ?_
              refine gop (y_eql rfl rfl) rfl rfl rfl ?_
              refine gop (y_move (v := .bool _) rfl) rfl rfl rfl ?_
              refine gop_if (want := false) rfl rfl rfl rfl rfl rfl (fun hg52 => ?_) (fun hg52 => ?_)
              · 
                have hg52d := of_decide_eq_false hg52
                refine gop (y_bare (y_move (v := .int _ _) rfl)) rfl rfl rfl ?_
                refine gop_on rfl rfl rfl rfl hg52 ?_
                refine gop (y_bare (y_move (v := .string _) rfl)) rfl rfl rfl ?_
                refine gop_on rfl rfl rfl rfl hg52 ?_
                refine gop (y_bare (y_move (v := .int _ _) rfl)) rfl rfl rfl ?_
                refine gop_on rfl rfl rfl rfl hg52 ?_
                refine gop (y_bare (y_stridx (m := k) Tryz.underlying9 rfl rfl (by omega) (by omega) (by omega))) rfl rfl rfl ?_
                refine gop_on rfl rfl rfl rfl hg52 ?_
                refine gop (y_bare (y_eql rfl rfl)) rfl rfl rfl ?_
                refine gop (y_pick_f (v := .bool _) rfl hg52 rfl) rfl rfl rfl ?_
                refine gop (y_assign (v := .bool _) rfl) rfl rfl rfl ?_
                refine gops_nil ?_
                refine hN22 _ _ ?_
                refine gfrom [(1, .string _), (2, .pointer _), (5, .pointer _), (6, .func (.func 152) #[] #[.pointer (some ⟨b2, 0, none⟩), .pointer (some ⟨b5, 0, none⟩)]), (7, .int _ _), (8, .slice (some _) _ _), (9, .int _ _), (21, .int _ _), (22, .int _ _), (30, .int _ _), (31, .int _ _), (49, .bool _)] ⟨rfl, rfl, rfl, rfl, rfl, rfl, rfl, rfl, rfl, rfl, rfl, rfl, trivial⟩ fun σ => ?_
                refine gcond (b := _) rfl (fun hc49 => ?_) (fun hc49 => ?_)
                · 
                  replace hc49 := of_decide_eq_true hc49
                  refine greg ?_
                  refine gop (y_move (v := .slice (some _) _ _) rfl) rfl rfl rfl ?_
                  refine gop (y_move (v := .int _ _) rfl) rfl rfl rfl ?_
                  refine gop (y_add rfl rfl ⟨by omega, by omega⟩) rfl rfl rfl ?_
                  refine gop (y_indexAddr (m := i + 1) Tryz.underlying46 Tryz.sizeOf4 rfl rfl (by omega) (by omega) (by omega)) rfl rfl rfl ?_
                  refine gop_store_row 3 (f := boolCells) (l := nextTo p (byteAt s k) (nameRun p s k) i) (k := i + 1) (o := 0) (v := .bool _) (a := (nextTo p (byteAt s k) (nameRun p s k) i)[i + 1]'(by omega)) (a' := true) (fun _ => rfl) rfl rfl rfl Tryz.sizeOf4 rfl rfl rfl rfl hL.symm (List.getElem?_eq_getElem (by omega)) (Nat.le_of_ble_eq_true rfl) rfl rfl ?_
                  refine gops_nil ?_
                  refine hN17 _ _ ?_
                  refine gT [box b2 _, rowl _ _ _ _ _ _, box b5 _, rowl _ _ _ _ _ _] rfl ?_
                  refine gfrom [(1, .string _), (2, .pointer _), (5, .pointer _), (6, .func (.func 152) #[] #[.pointer (some ⟨b2, 0, none⟩), .pointer (some ⟨b5, 0, none⟩)]), (7, .int _ _), (8, .slice (some _) _ _), (21, .int _ _), (22, .int _ _), (30, .int _ _), (31, .int _ _)] ⟨rfl, rfl, rfl, rfl, rfl, rfl, rfl, rfl, rfl, rfl, trivial⟩ fun σ => ?_
                  refine greg ?_
                  refine gop (y_add rfl rfl ⟨by omega, by omega⟩) rfl rfl rfl ?_
                  refine gop (y_move (v := .int _ _) rfl) rfl rfl rfl ?_
                  refine gops_nil ?_
                  rw [nextTo_char (by rw [List.getElem?_eq_getElem (by omega), hc37]) (by omega) (.inr (by omega))]
                  refine gnext2 (i + 1) (by omega) (show i + 1 ≤ _ by omega) ⟨rfl, trivial⟩ ⟨rfl, rfl, rfl, rfl, rfl, rfl, rfl, rfl, rfl, trivial⟩ ⟨_, rfl⟩
                · 
                  replace hc49 := of_decide_eq_false hc49
                  refine gskip ?_
                  refine hN17 _ _ ?_
                  refine gfrom [(1, .string _), (2, .pointer _), (5, .pointer _), (6, .func (.func 152) #[] #[.pointer (some ⟨b2, 0, none⟩), .pointer (some ⟨b5, 0, none⟩)]), (7, .int _ _), (8, .slice (some _) _ _), (21, .int _ _), (22, .int _ _), (30, .int _ _), (31, .int _ _)] ⟨rfl, rfl, rfl, rfl, rfl, rfl, rfl, rfl, rfl, rfl, trivial⟩ fun σ => ?_
                  refine greg ?_
                  refine gop (y_add rfl rfl ⟨by omega, by omega⟩) rfl rfl rfl ?_
                  refine gop (y_move (v := .int _ _) rfl) rfl rfl rfl ?_
                  refine gops_nil ?_
                  rw [nextTo_miss (i := i) (by rw [List.getElem?_eq_getElem (by omega), hc37]) (by omega) (by omega)]
                  refine gnext2 (i + 1) (by omega) (show i + 1 ≤ _ by omega) ⟨rfl, trivial⟩ ⟨rfl, rfl, rfl, rfl, rfl, rfl, rfl, rfl, rfl, trivial⟩ ⟨_, rfl⟩
              · 
                have hg52d := of_decide_eq_true hg52
                refine gop_off rfl rfl rfl rfl hg52 rfl rfl ?_
                refine gop_off rfl rfl rfl rfl hg52 rfl rfl ?_
                refine gop_off rfl rfl rfl rfl hg52 rfl rfl ?_
                refine gop_off rfl rfl rfl rfl hg52 rfl rfl ?_
                refine gop (y_pick_t (v := .bool _) rfl hg52 rfl) rfl rfl rfl ?_
                refine gop (y_assign (v := .bool _) rfl) rfl rfl rfl ?_
                refine gops_nil ?_
                refine hN22 _ _ ?_
                refine gfrom [(1, .string _), (2, .pointer _), (5, .pointer _), (6, .func (.func 152) #[] #[.pointer (some ⟨b2, 0, none⟩), .pointer (some ⟨b5, 0, none⟩)]), (7, .int _ _), (8, .slice (some _) _ _), (9, .int _ _), (21, .int _ _), (22, .int _ _), (30, .int _ _), (31, .int _ _), (49, .bool _)] ⟨rfl, rfl, rfl, rfl, rfl, rfl, rfl, rfl, rfl, rfl, rfl, rfl, trivial⟩ fun σ => ?_
                refine gcond (b := _) rfl (fun hc49 => ?_) (fun hc49 => ?_)
                · 
                  refine greg ?_
                  refine gop (y_move (v := .slice (some _) _ _) rfl) rfl rfl rfl ?_
                  refine gop (y_move (v := .int _ _) rfl) rfl rfl rfl ?_
                  refine gop (y_add rfl rfl ⟨by omega, by omega⟩) rfl rfl rfl ?_
                  refine gop (y_indexAddr (m := i + 1) Tryz.underlying46 Tryz.sizeOf4 rfl rfl (by omega) (by omega) (by omega)) rfl rfl rfl ?_
                  refine gop_store_row 3 (f := boolCells) (l := nextTo p (byteAt s k) (nameRun p s k) i) (k := i + 1) (o := 0) (v := .bool _) (a := (nextTo p (byteAt s k) (nameRun p s k) i)[i + 1]'(by omega)) (a' := true) (fun _ => rfl) rfl rfl rfl Tryz.sizeOf4 rfl rfl rfl rfl hL.symm (List.getElem?_eq_getElem (by omega)) (Nat.le_of_ble_eq_true rfl) rfl rfl ?_
                  refine gops_nil ?_
                  refine hN17 _ _ ?_
                  refine gT [box b2 _, rowl _ _ _ _ _ _, box b5 _, rowl _ _ _ _ _ _] rfl ?_
                  refine gfrom [(1, .string _), (2, .pointer _), (5, .pointer _), (6, .func (.func 152) #[] #[.pointer (some ⟨b2, 0, none⟩), .pointer (some ⟨b5, 0, none⟩)]), (7, .int _ _), (8, .slice (some _) _ _), (21, .int _ _), (22, .int _ _), (30, .int _ _), (31, .int _ _)] ⟨rfl, rfl, rfl, rfl, rfl, rfl, rfl, rfl, rfl, rfl, trivial⟩ fun σ => ?_
                  refine greg ?_
                  refine gop (y_add rfl rfl ⟨by omega, by omega⟩) rfl rfl rfl ?_
                  refine gop (y_move (v := .int _ _) rfl) rfl rfl rfl ?_
                  refine gops_nil ?_
                  rw [nextTo_char (by rw [List.getElem?_eq_getElem (by omega), hc37]) (by omega) (.inl (by omega))]
                  refine gnext2 (i + 1) (by omega) (show i + 1 ≤ _ by omega) ⟨rfl, trivial⟩ ⟨rfl, rfl, rfl, rfl, rfl, rfl, rfl, rfl, rfl, trivial⟩ ⟨_, rfl⟩
                · 
                  cases hc49
        · 
          replace hc32 := of_decide_eq_false hc32
          obtain rfl : i = p.size := by omega
          refine gexit ?_
          refine hN13 _ _ ?_
          refine gfrom [(1, .string _), (2, .pointer _), (5, .pointer _), (6, .func (.func 152) #[] #[.pointer (some ⟨b2, 0, none⟩), .pointer (some ⟨b5, 0, none⟩)]), (8, .slice (some _) _ _), (21, .int _ _), (22, .int _ _)] ⟨rfl, rfl, rfl, rfl, rfl, rfl, rfl, trivial⟩ fun σ => ?_
          refine gseq fun N23 hN23 => ?_
          refine greg ?_
          refine gop (y_move (v := .slice (some _) _ _) rfl) rfl rfl rfl ?_
          refine gop_store 2 (v := .slice (some _) _ _) (cs' := #[_]) rfl rfl Tryz.sizeOf46 rfl rfl rfl rfl (Nat.le_of_ble_eq_true rfl) rfl rfl ?_
          refine gops_nil ?_
          refine hN23 _ _ ?_
          refine gT [box b2 _, rowl _ _ _ _ _ _, box b5 _, rowl _ _ _ _ _ _] rfl ?_
          refine gfrom [(1, .string _), (2, .pointer _), (5, .pointer _), (6, .func (.func 152) #[] #[.pointer (some ⟨b2, 0, none⟩), .pointer (some ⟨b5, 0, none⟩)]), (21, .int _ _), (22, .int _ _)] ⟨rfl, rfl, rfl, rfl, rfl, rfl, trivial⟩ fun σ => ?_
          refine greg ?_
          refine gop (y_move (v := .func (.func 152) #[] #[.pointer (some ⟨b2, 0, none⟩), .pointer (some ⟨b5, 0, none⟩)]) rfl) rfl rfl rfl ?_
          refine gop_does1 3 (fun v r G => v = .tuple #[] ∧ r = rowl boolCells w.heap.size 4 1 (.slice (some ⟨b28, 0, none⟩) (p.size + 1) (p.size + 1)) (starsTo p (nextTo p (byteAt s k) (nameRun p s k) p.size) p.size) ∧ G = []) (e_callv (vs := []) (cs := [.pointer (some ⟨b2, 0, none⟩), .pointer (some ⟨b5, 0, none⟩)]) rfl Tryz.func152 rfl (by kernel_rfl) rfl) rfl (fun w fr1 hfr hM => (stars_any _ w b2 b5 b28 _ _ _ p _ fr1 hp rfl (by rw [nextTo_len]) (fun w1 ho => ⟨box_cell (hfr 0 _ rfl (by decide) w1 ho) rfl, box_cell (hfr 2 _ rfl (by decide) w1 ho) rfl⟩) hM).mono fun _ _ ⟨he, hm⟩ => ⟨_, _, [], he, ⟨rfl, rfl, rfl⟩, hm⟩) rfl rfl rfl ?_
          rintro _ _ _ ⟨rfl, rfl, rfl⟩
          refine gops_nil ?_
          refine hN10 _ _ ?_
          refine gT [box b2 _, rowl _ _ _ _ _ _, box b5 _, rowl _ _ _ _ _ _] rfl ?_
          refine gfrom [(1, .string _), (2, .pointer _), (5, .pointer _), (6, .func (.func 152) #[] #[.pointer (some ⟨b2, 0, none⟩), .pointer (some ⟨b5, 0, none⟩)]), (21, .int _ _), (22, .int _ _)] ⟨rfl, rfl, rfl, rfl, rfl, rfl, trivial⟩ fun σ => ?_
          refine greg ?_
          refine gop (y_add rfl rfl ⟨by omega, by omega⟩) rfl rfl rfl ?_
          refine gop (y_move (v := .int _ _) rfl) rfl rfl rfl ?_
          refine gops_nil ?_
          refine fin_mem _ (weak_perm (List.Perm.cons _ (List.reverse_perm _).symm)) ?_
          refine gnext2 ((k + 1, b28)) (by show s.size - (k + 1) < s.size - k; omega) (show k + 1 ≤ _ by omega) ⟨rfl, trivial⟩ ⟨rfl, rfl, rfl, rfl, rfl, trivial⟩ ⟨_, rfl⟩
    · 
      replace hc23 := of_decide_eq_false hc23
      obtain rfl : k = s.size := by omega
      refine gexit ?_
      refine hN6 _ _ ?_
      refine gfrom [(2, .pointer _), (5, .pointer _)] ⟨rfl, rfl, trivial⟩ fun σ => ?_
      refine gseq fun N24 hN24 => ?_
      refine greg ?_
      refine gop (y_load Tryz.isAgg46 rfl (cell_box 2 rfl rfl)) rfl rfl rfl ?_
      refine gop (y_load Tryz.isAgg9 rfl (cell_box 0 rfl rfl)) rfl rfl rfl ?_
      refine gop (y_lens Tryz.underlying9 rfl) rfl rfl rfl ?_
      refine gop (y_indexAddr (m := p.size) Tryz.underlying46 Tryz.sizeOf4 rfl rfl (by omega) (by omega) (by omega)) rfl rfl rfl ?_
      refine gop (y_load Tryz.isAgg4 rfl (cells_rowl 1 (f := boolCells) (l := nameRun p s s.size) rfl (nameRun_len p s _).symm (fun _ => rfl) (List.getElem?_eq_getElem (show p.size < (nameRun p s s.size).length by omega)) 0 _ rfl)) rfl rfl rfl ?_
      refine gop (y_assign (v := .bool _) rfl) rfl rfl rfl ?_
      refine gops_nil ?_
      refine hN24 _ _ ?_
      refine gfrom [(4, .bool _)] ⟨rfl, trivial⟩ fun σ => ?_
      refine gret fun w1 hM => ?_
      refine ⟨_, res1 rfl (rt (v := .bool _) rfl), ?_⟩
      exact ⟨by rw [nameM, List.getElem?_eq_getElem (by omega)]; rfl, hM.low⟩
end Go.Proofs.YtbkameioedmlkaaGreatDoor
namespace Go.Proofs.YtbkameioedmlkaaGreatDoor
open Go.RowKit Go.Cf
set_option maxRecDepth 10000
abbrev ek2 (k : Nat × Nat) : Value := .agg #[.int .i64 k.1, .int .i64 k.2]
theorem ck2 (em : Bool) (k : Nat × Nat) (w : World) : (Instr.checkKey em 10000 171 (ek2 k)).run Tryz.prog w = .ok () w := by
  kernel_rfl
theorem eq2 (a b a' b' : Int) (w : World) : (Op.equal 171 (.agg #[.int .i64 a, .int .i64 b]) (.agg #[.int .i64 a', .int .i64 b'])).run Tryz.prog w = .ok (decide (a = a') && decide (b = b')) w := by
  obtain ⟨i, hi⟩ := info_of_underlying Tryz.underlying3
  show (Op.equalIn (9999 + 1) 171 _ _).run _ _ = _
  rw [run_equalIn_array _ _ _ _ Tryz.underlying171 hi]
  have h1 : Tryz.prog.cellsOf 3 = 1 := by kernel_rfl
  have h2 : List.range 2 = [0, 1] := rfl
  rw [h1, h2]
  simp [Op.eqItems, go_sem]
  (repeat' split) <;> simp_all
theorem sm2 (k : Nat × Nat) : Instr.sameBits 10000 (ek2 k) (ek2 k) = true := by
  simp [Instr.sameBits]
theorem key2 : Key Tryz.prog 171 ek2 where
  wide := by kernel_rfl
  check := fun em k w => ck2 em k w
  eq := fun k k' w => by
    rw [eq2]
    congr 1
    rw [Bool.eq_iff_iff]; simp [Prod.ext_iff]; omega
  same := sm2
end Go.Proofs.YtbkameioedmlkaaGreatDoor
namespace Go.Proofs.YtbkameioedmlkaaGreatDoor
open Go.RowKit Go.Cf
set_option maxRecDepth 10000
theorem bd171_0_1 (x1 : Int) (x2 : Int) : Tryz.prog.built 171 [(0, .int .i64 x1), (1, .int .i64 x2)] = some #[.int .i64 x1, .int .i64 x2] := by kernel_rfl
set_option maxHeartbeats 4000000 in
theorem walk1_any (P N : List ByteArray) (A1 A2 : Option Addr) (c1 c2 mb b5 b2 b3 b6 : Nat) (hPs : ∀ x ∈ P, x.size ≤ 4000000) (hNs : ∀ x ∈ N, x.size ≤ 4000000) (hPl : P.length ≤ 4000001) (hNl : N.length ≤ 4000001) (w0 : World)
    (hP : Rdl w0 0 1 strCells A1 P) (hN : Rdl w0 0 1 strCells A2 N) (m : Nat) : ∀ (i j : Nat) (w : World) (l : List ((Nat × Nat) × Bool)) (fr : Reg),
    (∀ w1, fr.ok w1 → w1.cell? ⟨b5, 0, none⟩ = some (.map (some mb)) ∧ w1.cell? ⟨b2, 0, none⟩ = some (.slice A1 P.length c1) ∧ w1.cell? ⟨b3, 0, none⟩ = some (.slice A2 N.length c2) ∧ w1.cell? ⟨b6, 0, none⟩ = some (.func (.func 132) #[] #[.pointer (some ⟨b5, 0, none⟩), .pointer (some ⟨b2, 0, none⟩), .pointer (some ⟨b3, 0, none⟩), .pointer (some ⟨b6, 0, none⟩)])) → P.length - i + (N.length - j) = m → i ≤ P.length → j ≤ N.length → MemoOk (wkAt P N) l → Mem w0 [mapr ek2 Value.bool mb l, fr] w →
    Calls Tryz.prog 132 #[.int .i64 (i : Int), .int .i64 (j : Int), .pointer (some ⟨b5, 0, none⟩), .pointer (some ⟨b2, 0, none⟩), .pointer (some ⟨b3, 0, none⟩), .pointer (some ⟨b6, 0, none⟩)] w fun e w' => e = .returned (.bool (wkAt P N i j)) ∧ ∃ l', MemoOk (wkAt P N) l' ∧ Mem w0 [mapr ek2 Value.bool mb l', fr] w' := by
  refine Nat.strongRecOn m ?_
  intro m ih i j w l fr hF hm hi hj hl hM0
  refine gcallsT Tryz.func132 rfl Tryz.ntmps132 (Nat.le_of_ble_eq_true rfl) hM0 ?_
  refine gfrom [(0, .int _ _), (1, .int _ _), (2, .pointer (some _)), (3, .pointer (some _)), (4, .pointer (some _)), (5, .pointer (some _))] ⟨rfl, rfl, rfl, rfl, rfl, rfl, trivial⟩ fun σ => ?_
  refine gseq fun N1 hN1 => ?_
  refine greg ?_
  refine gop (y_assign (v := .bool _) rfl) rfl rfl rfl ?_
  refine gops_nil ?_
  refine hN1 _ _ ?_
  refine gfrom [(0, .int _ _), (1, .int _ _), (2, .pointer (some _)), (3, .pointer (some _)), (4, .pointer (some _)), (5, .pointer (some _))] ⟨rfl, rfl, rfl, rfl, rfl, rfl, trivial⟩ fun σ => ?_
  refine gseq fun N2 hN2 => ?_
  refine gseq fun N3 hN3 => ?_
  refine greg ?_
  refine gop (y_load Tryz.isAgg202 rfl (fun w hM => (hF w (hM.ok _ (List.mem_of_getElem? (i := 1) rfl))).1)) rfl rfl rfl ?_
  refine gop (y_move (v := .int _ _) rfl) rfl rfl rfl ?_
  refine gop (y_move (v := .int _ _) rfl) rfl rfl rfl ?_
  refine gop (y_build (vs := [(0, .int _ _), (1, .int _ _)]) (cells := #[_, _]) rfl (bd171_0_1 _ _)) rfl rfl rfl ?_
  refine gop (y_lookup 0 (c := true) (v0 := .bool false) (u := .tuple #[.bool ((Go.Cf.look l (i, j)).getD false), .bool (Go.Cf.look l (i, j)).isSome]) key2 Tryz.underlying202 Tryz.zeroValue4 rfl (i, j) rfl rfl (by cases Go.Cf.look l (i, j) <;> rfl)) rfl rfl rfl ?_
  refine gop (y_move (v := .tuple #[.bool _, .bool _]) rfl) rfl rfl rfl ?_
  refine gop (y_extract (v := .bool _) rfl rfl) rfl rfl rfl ?_
  refine gop (y_extract (v := .bool _) rfl rfl) rfl rfl rfl ?_
  refine gop (y_assign (v := .bool _) rfl) rfl rfl rfl ?_
  refine gop (y_assign (v := .bool _) rfl) rfl rfl rfl ?_
  refine gops_nil ?_
  refine hN3 _ _ ?_
  refine gfrom [(0, .int _ _), (1, .int _ _), (2, .pointer (some _)), (3, .pointer (some _)), (4, .pointer (some _)), (5, .pointer (some _)), (9, .bool _), (10, .bool _)] ⟨rfl, rfl, rfl, rfl, rfl, rfl, rfl, rfl, trivial⟩ fun σ => ?_
  refine gseq fun N4 hN4 => ?_
  refine greg ?_
  refine gop (y_move (v := .bool _) rfl) rfl rfl rfl ?_
  refine gops_nil ?_
  refine hN4 _ _ ?_
  refine gfrom [(0, .int _ _), (1, .int _ _), (2, .pointer (some _)), (3, .pointer (some _)), (4, .pointer (some _)), (5, .pointer (some _)), (9, .bool _), (20, .bool _)] ⟨rfl, rfl, rfl, rfl, rfl, rfl, rfl, rfl, trivial⟩ fun σ => ?_
  refine gcond (b := _) rfl (fun hc20 => ?_) (fun hc20 => ?_)
  · 
    refine gseq fun N5 hN5 => ?_
    refine greg ?_
    refine gop (y_move (v := .bool _) rfl) rfl rfl rfl ?_
    refine gop (y_assign (v := .bool _) rfl) rfl rfl rfl ?_
    refine gops_nil ?_
    refine hN5 _ _ ?_
    refine gfrom [(8, .bool _)] ⟨rfl, trivial⟩ fun σ => ?_
    refine gret fun w1 hM => ?_
    refine ⟨_, res1 rfl (rt (v := .bool _) rfl), ?_⟩
    exact ⟨by rw [memo_hit hl hc20], l, hl, hM⟩
  · 
    refine gskip ?_
    refine hN2 _ _ ?_
    refine gfrom [(0, .int _ _), (1, .int _ _), (2, .pointer (some _)), (3, .pointer (some _)), (4, .pointer (some _)), (5, .pointer (some _))] ⟨rfl, rfl, rfl, rfl, rfl, rfl, trivial⟩ fun σ => ?_
    refine gseq fun N6 hN6 => ?_
    refine greg ?_
    refine gop (y_assign (v := .bool _) rfl) rfl rfl rfl ?_
    refine gops_nil ?_
    refine hN6 _ _ ?_
    refine gfrom [(0, .int _ _), (1, .int _ _), (2, .pointer (some _)), (3, .pointer (some _)), (4, .pointer (some _)), (5, .pointer (some _))] ⟨rfl, rfl, rfl, rfl, rfl, rfl, trivial⟩ fun σ => ?_
    refine gseq fun N7 hN7 => ?_
    refine gfrom [(0, .int _ _), (1, .int _ _), (2, .pointer (some _)), (3, .pointer (some _)), (4, .pointer (some _)), (5, .pointer (some _))] ⟨rfl, rfl, rfl, rfl, rfl, rfl, trivial⟩ fun σ => ?_
    refine gcut3 (Lf := [(0, .int _ _), (1, .int _ _), (2, .pointer (some _))]) (G := List ((Nat × Nat) × Bool)) (fun l1 => MemoOk (wkAt P N) l1) (fun l1 => [(11, .bool (wkAt P N i j))]) (fun l1 => [(0, mapr ek2 Value.bool mb l1)]) ⟨rfl, rfl, rfl, trivial⟩ ?_ ?_
    ·
      refine gblock ?_
      refine gseq fun N8 hN8 => ?_
      refine greg ?_
      refine gop (y_move (v := .int _ _) rfl) rfl rfl rfl ?_
      refine gop (y_load Tryz.isAgg22 rfl (fun w hM => (hF w (hM.ok _ (List.mem_of_getElem? (i := 1) rfl))).2.1)) rfl rfl rfl ?_
      refine gop (y_len Tryz.underlying22 rfl) rfl rfl rfl ?_
      refine gop (y_eql rfl rfl) rfl rfl rfl ?_
      refine gop (y_assign (v := .bool _) rfl) rfl rfl rfl ?_
      refine gops_nil ?_
      refine hN8 _ _ ?_
      refine gfrom [(0, .int _ _), (1, .int _ _), (2, .pointer (some _)), (3, .pointer (some _)), (4, .pointer (some _)), (5, .pointer (some _)), (45, .bool _)] ⟨rfl, rfl, rfl, rfl, rfl, rfl, rfl, trivial⟩ fun σ => ?_
      refine gcond (b := _) rfl (fun hc45 => ?_) (fun hc45 => ?_)
      · 
        replace hc45 := of_decide_eq_true hc45
        obtain rfl : i = P.length := by omega
        refine greg ?_
        refine gop (y_move (v := .int _ _) rfl) rfl rfl rfl ?_
        refine gop (y_load Tryz.isAgg22 rfl (fun w hM => (hF w (hM.ok _ (List.mem_of_getElem? (i := 1) rfl))).2.2.1)) rfl rfl rfl ?_
        refine gop (y_len Tryz.underlying22 rfl) rfl rfl rfl ?_
        refine gop (y_eql rfl rfl) rfl rfl rfl ?_
        refine gop (y_assign (v := .bool _) rfl) rfl rfl rfl ?_
        refine gops_nil ?_
        refine gcut3_end (l) (hl) ⟨congrArg Value.bool (wk_end hj).symm, trivial⟩ ⟨rfl, rfl, rfl, trivial⟩ ⟨_, rfl⟩
      · 
        replace hc45 := of_decide_eq_false hc45
        have hi1 : i < P.length := by omega
        obtain ⟨ad1, rfl, -, hca⟩ := hP.at_ hi1
        refine gseq fun N9 hN9 => ?_
        refine greg ?_
        refine gop (y_load Tryz.isAgg22 rfl (fun w hM => (hF w (hM.ok _ (List.mem_of_getElem? (i := 1) rfl))).2.1)) rfl rfl rfl ?_
        refine gop (y_move (v := .int _ _) rfl) rfl rfl rfl ?_
        refine gop (y_indexAddr (m := i) Tryz.underlying22 Tryz.sizeOf9 rfl rfl (by omega) (by omega) (by omega)) rfl rfl rfl ?_
        refine gop (y_load Tryz.isAgg9 rfl (cell_base (hca 0 _ rfl))) rfl rfl rfl ?_
        refine gop (y_eqls rfl rfl) rfl rfl rfl ?_
        refine gop (y_assign (v := .bool _) rfl) rfl rfl rfl ?_
        refine gops_nil ?_
        refine hN9 _ _ ?_
        refine gfrom [(0, .int _ _), (1, .int _ _), (2, .pointer (some _)), (3, .pointer (some _)), (4, .pointer (some _)), (5, .pointer (some _)), (54, .bool _)] ⟨rfl, rfl, rfl, rfl, rfl, rfl, rfl, trivial⟩ fun σ => ?_
        refine gcond (b := _) rfl (fun hc54 => ?_) (fun hc54 => ?_)
        · 
          refine greg ?_
          refine gop (y_load Tryz.isAgg203 rfl (fun w hM => (hF w (hM.ok _ (List.mem_of_getElem? (i := 1) rfl))).2.2.2)) rfl rfl rfl ?_
          refine gop (y_move (v := .int _ _) rfl) rfl rfl rfl ?_
          refine gop (y_add rfl rfl ⟨by omega, by omega⟩) rfl rfl rfl ?_
          refine gop (y_move (v := .int _ _) rfl) rfl rfl rfl ?_
          refine gop_does1 0 (fun v r G => ∃ l1, v = .bool (wkAt P N (i + 1) (j)) ∧ r = mapr ek2 Value.bool mb l1 ∧ MemoOk (wkAt P N) l1 ∧ G = []) (e_callv (vs := [.int _ _, .int _ _]) (cs := [.pointer (some ⟨b5, 0, none⟩), .pointer (some ⟨b2, 0, none⟩), .pointer (some ⟨b3, 0, none⟩), .pointer (some ⟨b6, 0, none⟩)]) rfl Tryz.func132 rfl (by kernel_rfl) rfl) rfl (fun w fr1 hfr hM => (ih (P.length - (i + 1) + (N.length - (j))) (by omega) (i + 1) (j) w _ fr1 (fun w1 ho => hF w1 (hfr 1 _ rfl (by decide) w1 ho)) rfl (by omega) (by omega) hl hM).mono fun _ _ ⟨he, l1, h1, h2⟩ => ⟨_, _, [], he, ⟨l1, rfl, rfl, h1, rfl⟩, h2⟩) rfl rfl rfl ?_
          rintro _ _ _ ⟨l1, rfl, rfl, hl1, rfl⟩
          refine gop (y_move (v := .bool _) rfl) rfl rfl rfl ?_
          refine gop_if (want := false) rfl rfl rfl rfl rfl rfl (fun hg65 => ?_) (fun hg65 => ?_)
          · 
            have hg65d := hg65
            refine gop (y_bare (y_move (v := .int _ _) rfl)) rfl rfl rfl ?_
            refine gop_on rfl rfl rfl rfl hg65 ?_
            refine gop (y_bare (y_load Tryz.isAgg22 rfl (fun w hM => (hF w (hM.ok _ (List.mem_of_getElem? (i := 1) rfl))).2.2.1))) rfl rfl rfl ?_
            refine gop_on rfl rfl rfl rfl hg65 ?_
            refine gop (y_bare (y_len Tryz.underlying22 rfl)) rfl rfl rfl ?_
            refine gop_on rfl rfl rfl rfl hg65 ?_
            refine gop (y_bare (y_lss rfl rfl)) rfl rfl rfl ?_
            refine gop_on rfl rfl rfl rfl hg65 ?_
            refine gop (y_bare (y_move (v := .bool _) rfl)) rfl rfl rfl ?_
            refine gop_if (want := true) rfl rfl rfl rfl rfl rfl (fun hg70 => ?_) (fun hg70 => ?_)
            · 
              have hg70d := of_decide_eq_true hg70
              refine gop (y_bare (y_load Tryz.isAgg203 rfl (fun w hM => (hF w (hM.ok _ (List.mem_of_getElem? (i := 1) rfl))).2.2.2))) rfl rfl rfl ?_
              refine gop_on rfl rfl rfl rfl hg70 ?_
              refine gop (y_bare (y_move (v := .int _ _) rfl)) rfl rfl rfl ?_
              refine gop_on rfl rfl rfl rfl hg70 ?_
              refine gop (y_bare (y_move (v := .int _ _) rfl)) rfl rfl rfl ?_
              refine gop_on rfl rfl rfl rfl hg70 ?_
              refine gop (y_bare (y_add rfl rfl ⟨by omega, by omega⟩)) rfl rfl rfl ?_
              refine gop_on rfl rfl rfl rfl hg70 ?_
              refine gop_does1 0 (fun v r G => ∃ l1, v = .bool (wkAt P N (i) (j + 1)) ∧ r = mapr ek2 Value.bool mb l1 ∧ MemoOk (wkAt P N) l1 ∧ G = []) (e_callv (vs := [.int _ _, .int _ _]) (cs := [.pointer (some ⟨b5, 0, none⟩), .pointer (some ⟨b2, 0, none⟩), .pointer (some ⟨b3, 0, none⟩), .pointer (some ⟨b6, 0, none⟩)]) rfl Tryz.func132 rfl (by kernel_rfl) rfl) rfl (fun w fr1 hfr hM => (ih (P.length - (i) + (N.length - (j + 1))) (by omega) (i) (j + 1) w _ fr1 (fun w1 ho => hF w1 (hfr 1 _ rfl (by decide) w1 ho)) rfl (by omega) (by omega) hl1 hM).mono fun _ _ ⟨he, l1, h1, h2⟩ => ⟨_, _, [], he, ⟨l1, rfl, rfl, h1, rfl⟩, h2⟩) rfl rfl rfl ?_
              rintro _ _ _ ⟨l2, rfl, rfl, hl2, rfl⟩
              refine gop_on rfl rfl rfl rfl hg65 ?_
              refine gop (y_bare (y_pick_t (v := .bool _) rfl hg70 rfl)) rfl rfl rfl ?_
              refine gop (y_pick_f (v := .bool _) rfl hg65 rfl) rfl rfl rfl ?_
              refine gop (y_assign (v := .bool _) rfl) rfl rfl rfl ?_
              refine gops_nil ?_
              refine gcut3_end (l2) (hl2) ⟨congrArg Value.bool (wk_star2 hi1 hc54 hg65d (by omega)).symm, trivial⟩ ⟨rfl, rfl, rfl, trivial⟩ ⟨_, rfl⟩
            · 
              have hg70d := of_decide_eq_false hg70
              refine gop_off rfl rfl rfl rfl hg70 rfl rfl ?_
              refine gop_off rfl rfl rfl rfl hg70 rfl rfl ?_
              refine gop_off rfl rfl rfl rfl hg70 rfl rfl ?_
              refine gop_off rfl rfl rfl rfl hg70 rfl rfl ?_
              refine gop_on rfl rfl rfl rfl hg65 ?_
              refine gop (y_bare (y_pick_f (v := .bool _) rfl hg70 rfl)) rfl rfl rfl ?_
              refine gop (y_pick_f (v := .bool _) rfl hg65 rfl) rfl rfl rfl ?_
              refine gop (y_assign (v := .bool _) rfl) rfl rfl rfl ?_
              refine gops_nil ?_
              refine gcut3_end (l1) (hl1) ⟨congrArg Value.bool (wk_star3 hi1 hc54 hg65d (by omega)).symm, trivial⟩ ⟨rfl, rfl, rfl, trivial⟩ ⟨_, rfl⟩
          · 
            have hg65d := hg65
            refine gop_off rfl rfl rfl rfl hg65 rfl rfl ?_
            refine gop_off rfl rfl rfl rfl hg65 rfl rfl ?_
            refine gop_off rfl rfl rfl rfl hg65 rfl rfl ?_
            refine gop_off rfl rfl rfl rfl hg65 rfl rfl ?_
            refine gop_offu rfl rfl rfl rfl rfl rfl ?_
            refine gop_offu rfl rfl rfl rfl rfl rfl ?_
            refine gop_offu rfl rfl rfl rfl rfl rfl ?_
            refine gop_offu rfl rfl rfl rfl rfl rfl ?_
            refine gop_offu rfl rfl rfl rfl rfl rfl ?_
            refine gop_off rfl rfl rfl rfl hg65 rfl rfl ?_
            refine gop (y_pick_t (v := .bool _) rfl hg65 rfl) rfl rfl rfl ?_
            refine gop (y_assign (v := .bool _) rfl) rfl rfl rfl ?_
            refine gops_nil ?_
            refine gcut3_end (l1) (hl1) ⟨congrArg Value.bool (wk_star1 hi1 hc54 (by simpa using hg65d)).symm, trivial⟩ ⟨rfl, rfl, rfl, trivial⟩ ⟨_, rfl⟩
        · 
          refine greg_e0 [21] (by kernel_rfl) ?_
          refine ge_take 0 (TK := [mapr _ _ _ _, fr]) rfl (by kernel_rfl) (by kernel_rfl) (by kernel_rfl) #[false, true, true, false, false, false, false, false, false, false, false, false, false, false, false, false, false, false, false, false, false, false, false, false] (by kernel_rfl) rfl (y_move (v := .int _ _) rfl) rfl rfl rfl (weak_refl) (listed' := #[true, false, false, false, false, false, false, false, false, false, false, false, false, false, false, false, false, false, false, false, false, false, false, false]) rfl ?_
          refine ge_take 1 (TK := [mapr _ _ _ _, fr]) rfl (by kernel_rfl) (by kernel_rfl) (by kernel_rfl) #[true, false, false, false, false, false, false, false, false, false, false, false, false, false, false, false, false, false, false, false, false, false, false, false] (by kernel_rfl) rfl (y_load Tryz.isAgg22 rfl (fun w hM => (hF w (hM.ok _ (List.mem_of_getElem? (i := 1) rfl))).2.2.1)) rfl rfl rfl (weak_refl) (listed' := #[true, true, false, false, false, false, false, false, false, false, false, false, false, false, false, false, false, false, false, false, false, false, false, false]) rfl ?_
          refine ge_take 2 (TK := [mapr _ _ _ _, fr]) rfl (by kernel_rfl) (by kernel_rfl) (by kernel_rfl) #[true, true, false, false, false, false, false, false, false, false, false, false, false, false, false, false, false, false, false, false, false, false, false, false] (by kernel_rfl) rfl (y_len Tryz.underlying22 rfl) rfl rfl rfl (weak_refl) (listed' := #[true, true, true, false, false, false, false, false, false, false, false, false, false, false, false, false, false, false, false, false, false, false, false, false]) rfl ?_
          refine ge_take 3 (TK := [mapr _ _ _ _, fr]) rfl (by kernel_rfl) (by kernel_rfl) (by kernel_rfl) #[true, true, true, false, false, false, false, false, false, false, false, false, false, false, false, false, false, false, false, false, false, false, false, false] (by kernel_rfl) rfl (y_lss rfl rfl) rfl rfl rfl (weak_refl) (listed' := #[true, true, true, true, false, false, false, false, false, false, false, false, false, false, false, false, false, false, false, false, false, false, false, false]) rfl ?_
          refine ge_take 4 (TK := [mapr _ _ _ _, fr]) rfl (by kernel_rfl) (by kernel_rfl) (by kernel_rfl) #[true, true, true, true, false, false, false, false, false, false, false, false, false, false, false, false, false, false, false, false, false, false, false, false] (by kernel_rfl) rfl (y_move (v := .bool _) rfl) rfl rfl rfl (weak_refl) (listed' := #[true, true, true, true, true, false, false, false, false, false, false, false, false, false, false, false, false, false, false, false, false, false, false, false]) rfl ?_
          refine ge_dec 26 true rfl (fun hg26 => ?_) (fun hg26 => ?_)
          · 
            have hg26d := of_decide_eq_true hg26
            have hj1 : j < N.length := by omega
            obtain ⟨ad2, rfl, -, hcb⟩ := hN.at_ hj1
            refine ge_take_on 5 (TK := [mapr _ _ _ _, fr]) rfl (by kernel_rfl) (by kernel_rfl) (by kernel_rfl) #[true, true, true, true, true, false, true, false, false, true, true, true, true, false, false, false, false, false, false, false, false, false, false, false] (by kernel_rfl) rfl rfl rfl rfl rfl hg26 (y_bare (y_load Tryz.isAgg22 rfl (fun w hM => (hF w (hM.ok _ (List.mem_of_getElem? (i := 1) rfl))).2.1))) rfl rfl (weak_refl) (listed' := #[true, true, true, true, true, true, false, false, false, false, false, false, false, false, false, false, false, false, false, false, false, false, false, false]) rfl ?_
            refine ge_take_on 6 (TK := [mapr _ _ _ _, fr]) rfl (by kernel_rfl) (by kernel_rfl) (by kernel_rfl) #[true, true, true, true, true, true, false, false, false, true, true, true, true, false, false, false, false, false, false, false, false, false, false, false] (by kernel_rfl) rfl rfl rfl rfl rfl hg26 (y_bare (y_move (v := .int _ _) rfl)) rfl rfl (weak_refl) (listed' := #[true, true, true, true, true, true, true, false, false, false, false, false, false, false, false, false, false, false, false, false, false, false, false, false]) rfl ?_
            refine ge_take_on 7 (TK := [mapr _ _ _ _, fr]) rfl (by kernel_rfl) (by kernel_rfl) (by kernel_rfl) #[true, true, true, true, true, true, true, false, false, true, true, true, true, false, false, false, false, false, false, false, false, false, false, false] (by kernel_rfl) rfl rfl rfl rfl rfl hg26 (y_bare (y_indexAddr (m := i) Tryz.underlying22 Tryz.sizeOf9 rfl rfl (by omega) (by omega) (by omega))) rfl rfl (weak_refl) (listed' := #[true, true, true, true, true, true, true, true, false, false, false, false, false, false, false, false, false, false, false, false, false, false, false, false]) rfl ?_
            refine ge_take_on 8 (TK := [mapr _ _ _ _, fr]) rfl (by kernel_rfl) (by kernel_rfl) (by kernel_rfl) #[true, true, true, true, true, true, true, true, false, true, true, true, true, false, false, false, false, false, false, false, false, false, false, false] (by kernel_rfl) rfl rfl rfl rfl rfl hg26 (y_bare (y_load Tryz.isAgg9 rfl (cell_base (hca 0 _ rfl)))) rfl rfl (weak_refl) (listed' := #[true, true, true, true, true, true, true, true, true, false, false, false, false, false, false, false, false, false, false, false, false, false, false, false]) rfl ?_
            refine ge_take_on 9 (TK := [mapr _ _ _ _, fr]) rfl (by kernel_rfl) (by kernel_rfl) (by kernel_rfl) #[true, true, true, true, true, true, true, true, true, false, true, false, false, false, false, false, false, false, false, false, false, false, false, false] (by kernel_rfl) rfl rfl rfl rfl rfl hg26 (y_bare (y_load Tryz.isAgg22 rfl (fun w hM => (hF w (hM.ok _ (List.mem_of_getElem? (i := 1) rfl))).2.2.1))) rfl rfl (weak_refl) (listed' := #[true, true, true, true, true, true, true, true, true, true, false, false, false, false, false, false, false, false, false, false, false, false, false, false]) rfl ?_
            refine ge_take_on 10 (TK := [mapr _ _ _ _, fr]) rfl (by kernel_rfl) (by kernel_rfl) (by kernel_rfl) #[true, true, true, true, true, true, true, true, true, true, false, false, false, false, false, false, false, false, false, false, false, false, false, false] (by kernel_rfl) rfl rfl rfl rfl rfl hg26 (y_bare (y_move (v := .int _ _) rfl)) rfl rfl (weak_refl) (listed' := #[true, true, true, true, true, true, true, true, true, true, true, false, false, false, false, false, false, false, false, false, false, false, false, false]) rfl ?_
            refine ge_take_on 11 (TK := [mapr _ _ _ _, fr]) rfl (by kernel_rfl) (by kernel_rfl) (by kernel_rfl) #[true, true, true, true, true, true, true, true, true, true, true, false, false, false, false, false, false, false, false, false, false, false, false, false] (by kernel_rfl) rfl rfl rfl rfl rfl hg26 (y_bare (y_indexAddr (m := j) Tryz.underlying22 Tryz.sizeOf9 rfl rfl (by omega) (by omega) (by omega))) rfl rfl (weak_refl) (listed' := #[true, true, true, true, true, true, true, true, true, true, true, true, false, false, false, false, false, false, false, false, false, false, false, false]) rfl ?_
            refine ge_take_on 12 (TK := [mapr _ _ _ _, fr]) rfl (by kernel_rfl) (by kernel_rfl) (by kernel_rfl) #[true, true, true, true, true, true, true, true, true, true, true, true, false, false, false, false, false, false, false, false, false, false, false, false] (by kernel_rfl) rfl rfl rfl rfl rfl hg26 (y_bare (y_load Tryz.isAgg9 rfl (cell_base (hcb 0 _ rfl)))) rfl rfl (weak_refl) (listed' := #[true, true, true, true, true, true, true, true, true, true, true, true, true, false, false, false, false, false, false, false, false, false, false, false]) rfl ?_
            refine ge_one 13 (k' := 0) (listed' := #[true, true, true, true, true, true, true, true, true, true, true, true, true, true, false, false, false, false, false, false, false, false, false, false]) (by kernel_rfl) rfl rfl rfl ?_
            refine gop_on rfl rfl rfl rfl hg26 ?_
            refine gop_pure (e_call (vs := [.string _, .string _]) Tryz.func133 rfl (by kernel_rfl) rfl) (fun w hM => name_any w _ _ (hPs _ (List.getElem_mem hi1)) (hNs _ (List.getElem_mem hj1))) rfl rfl rfl ?_
            refine gops_nil ?_
            refine ge_fin (TK := [mapr _ _ _ _, fr]) rfl (weak_refl) ?_
            refine ge_take 14 (TK := [mapr _ _ _ _, fr]) rfl (by kernel_rfl) (by kernel_rfl) (by kernel_rfl) #[true, true, true, true, true, true, true, true, true, true, true, true, true, true, false, false, false, false, false, false, false, false, false, false] (by kernel_rfl) rfl (y_pick_t (v := .bool _) rfl hg26 rfl) rfl rfl rfl (weak_refl) (listed' := #[true, true, true, true, true, true, true, true, true, true, true, true, true, true, true, false, false, false, false, false, false, false, false, false]) rfl ?_
            refine ge_take 15 (TK := [mapr _ _ _ _, fr]) rfl (by kernel_rfl) (by kernel_rfl) (by kernel_rfl) #[true, true, true, true, true, true, true, true, true, true, true, true, true, true, true, false, false, false, false, false, false, false, false, false] (by kernel_rfl) rfl (y_move (v := .bool _) rfl) rfl rfl rfl (weak_refl) (listed' := #[true, true, true, true, true, true, true, true, true, true, true, true, true, true, true, true, false, false, false, false, false, false, false, false]) rfl ?_
            refine ge_dec 37 true rfl (fun hg37 => ?_) (fun hg37 => ?_)
            · 
              have hg37d := hg37
              refine ge_take_on 16 (TK := [mapr _ _ _ _, fr]) rfl (by kernel_rfl) (by kernel_rfl) (by kernel_rfl) #[true, true, true, true, true, true, true, true, true, true, true, true, true, true, true, true, false, true, true, true, true, false, false, false] (by kernel_rfl) rfl rfl rfl rfl rfl hg37 (y_bare (y_load Tryz.isAgg203 rfl (fun w hM => (hF w (hM.ok _ (List.mem_of_getElem? (i := 1) rfl))).2.2.2))) rfl rfl (weak_refl) (listed' := #[true, true, true, true, true, true, true, true, true, true, true, true, true, true, true, true, true, false, false, false, false, false, false, false]) rfl ?_
              refine ge_take_on 17 (TK := [mapr _ _ _ _, fr]) rfl (by kernel_rfl) (by kernel_rfl) (by kernel_rfl) #[true, true, true, true, true, true, true, true, true, true, true, true, true, true, true, true, true, false, false, true, true, false, false, false] (by kernel_rfl) rfl rfl rfl rfl rfl hg37 (y_bare (y_move (v := .int _ _) rfl)) rfl rfl (weak_refl) (listed' := #[true, true, true, true, true, true, true, true, true, true, true, true, true, true, true, true, true, true, false, false, false, false, false, false]) rfl ?_
              refine ge_take_on 18 (TK := [mapr _ _ _ _, fr]) rfl (by kernel_rfl) (by kernel_rfl) (by kernel_rfl) #[true, true, true, true, true, true, true, true, true, true, true, true, true, true, true, true, true, true, false, true, true, false, false, false] (by kernel_rfl) rfl rfl rfl rfl rfl hg37 (y_bare (y_add rfl rfl ⟨by omega, by omega⟩)) rfl rfl (weak_refl) (listed' := #[true, true, true, true, true, true, true, true, true, true, true, true, true, true, true, true, true, true, true, false, false, false, false, false]) rfl ?_
              refine ge_take_on 19 (TK := [mapr _ _ _ _, fr]) rfl (by kernel_rfl) (by kernel_rfl) (by kernel_rfl) #[true, true, true, true, true, true, true, true, true, true, true, true, true, true, true, true, true, true, true, false, false, false, false, false] (by kernel_rfl) rfl rfl rfl rfl rfl hg37 (y_bare (y_move (v := .int _ _) rfl)) rfl rfl (weak_refl) (listed' := #[true, true, true, true, true, true, true, true, true, true, true, true, true, true, true, true, true, true, true, true, false, false, false, false]) rfl ?_
              refine ge_take_on 20 (TK := [mapr _ _ _ _, fr]) rfl (by kernel_rfl) (by kernel_rfl) (by kernel_rfl) #[true, true, true, true, true, true, true, true, true, true, true, true, true, true, true, true, true, true, true, true, false, false, false, false] (by kernel_rfl) rfl rfl rfl rfl rfl hg37 (y_bare (y_add rfl rfl ⟨by omega, by omega⟩)) rfl rfl (weak_refl) (listed' := #[true, true, true, true, true, true, true, true, true, true, true, true, true, true, true, true, true, true, true, true, true, false, false, false]) rfl ?_
              refine ge_one 21 (k' := 1) (listed' := #[true, true, true, true, true, true, true, true, true, true, true, true, true, true, true, true, true, true, true, true, true, true, false, false]) (by kernel_rfl) rfl rfl rfl ?_
              refine gop_on rfl rfl rfl rfl hg37 ?_
              refine gop_does1 0 (fun v r G => ∃ l1, v = .bool (wkAt P N (i + 1) (j + 1)) ∧ r = mapr ek2 Value.bool mb l1 ∧ MemoOk (wkAt P N) l1 ∧ G = []) (e_callv (vs := [.int _ _, .int _ _]) (cs := [.pointer (some ⟨b5, 0, none⟩), .pointer (some ⟨b2, 0, none⟩), .pointer (some ⟨b3, 0, none⟩), .pointer (some ⟨b6, 0, none⟩)]) rfl Tryz.func132 rfl (by kernel_rfl) rfl) rfl (fun w fr1 hfr hM => (ih (P.length - (i + 1) + (N.length - (j + 1))) (by omega) (i + 1) (j + 1) w _ fr1 (fun w1 ho => hF w1 (hfr 1 _ rfl (by decide) w1 ho)) rfl (by omega) (by omega) hl hM).mono fun _ _ ⟨he, l1, h1, h2⟩ => ⟨_, _, [], he, ⟨l1, rfl, rfl, h1, rfl⟩, h2⟩) rfl rfl rfl ?_
              rintro _ _ _ ⟨l1, rfl, rfl, hl1, rfl⟩
              refine gops_nil ?_
              refine ge_fin (TK := []) rfl (weak_nil) ?_
              refine ge_take 22 (TK := []) rfl (by kernel_rfl) (by kernel_rfl) (by kernel_rfl) #[true, true, true, true, true, true, true, true, true, true, true, true, true, true, true, true, true, true, true, true, true, true, false, false] (by kernel_rfl) rfl (y_pick_t (v := .bool _) rfl hg37 rfl) rfl rfl rfl (weak_nil) (listed' := #[true, true, true, true, true, true, true, true, true, true, true, true, true, true, true, true, true, true, true, true, true, true, true, false]) rfl ?_
              refine ge_take 23 (TK := []) rfl (by kernel_rfl) (by kernel_rfl) (by kernel_rfl) #[true, true, true, true, true, true, true, true, true, true, true, true, true, true, true, true, true, true, true, true, true, true, true, false] (by kernel_rfl) rfl (y_assign (v := .bool _) rfl) rfl rfl rfl (weak_nil) (listed' := #[true, true, true, true, true, true, true, true, true, true, true, true, true, true, true, true, true, true, true, true, true, true, true, true]) rfl ?_
              refine ge_done (by kernel_rfl) ?_
              refine gcut3_end (l1) (hl1) ⟨congrArg Value.bool (by rw [wk_name hi1 hc54 hj1, hg37d, Bool.true_and]), trivial⟩ ⟨rfl, rfl, rfl, trivial⟩ ⟨_, rfl⟩
            · 
              have hg37d := hg37
              refine ge_take_off 16 (TK := [mapr _ _ _ _, fr]) rfl (by kernel_rfl) (by kernel_rfl) (by kernel_rfl) #[true, true, true, true, true, true, true, true, true, true, true, true, true, true, true, true, false, true, true, true, true, false, false, false] (by kernel_rfl) rfl rfl rfl rfl rfl (off_of hg37) rfl rfl (weak_refl) (listed' := #[true, true, true, true, true, true, true, true, true, true, true, true, true, true, true, true, true, false, false, false, false, false, false, false]) rfl ?_
              refine ge_take_off 17 (TK := [mapr _ _ _ _, fr]) rfl (by kernel_rfl) (by kernel_rfl) (by kernel_rfl) #[true, true, true, true, true, true, true, true, true, true, true, true, true, true, true, true, true, false, false, true, true, false, false, false] (by kernel_rfl) rfl rfl rfl rfl rfl (off_of hg37) rfl rfl (weak_refl) (listed' := #[true, true, true, true, true, true, true, true, true, true, true, true, true, true, true, true, true, true, false, false, false, false, false, false]) rfl ?_
              refine ge_take_off 18 (TK := [mapr _ _ _ _, fr]) rfl (by kernel_rfl) (by kernel_rfl) (by kernel_rfl) #[true, true, true, true, true, true, true, true, true, true, true, true, true, true, true, true, true, true, false, true, true, false, false, false] (by kernel_rfl) rfl rfl rfl rfl rfl (off_of hg37) rfl rfl (weak_refl) (listed' := #[true, true, true, true, true, true, true, true, true, true, true, true, true, true, true, true, true, true, true, false, false, false, false, false]) rfl ?_
              refine ge_take_off 19 (TK := [mapr _ _ _ _, fr]) rfl (by kernel_rfl) (by kernel_rfl) (by kernel_rfl) #[true, true, true, true, true, true, true, true, true, true, true, true, true, true, true, true, true, true, true, false, false, false, false, false] (by kernel_rfl) rfl rfl rfl rfl rfl (off_of hg37) rfl rfl (weak_refl) (listed' := #[true, true, true, true, true, true, true, true, true, true, true, true, true, true, true, true, true, true, true, true, false, false, false, false]) rfl ?_
              refine ge_take_off 20 (TK := [mapr _ _ _ _, fr]) rfl (by kernel_rfl) (by kernel_rfl) (by kernel_rfl) #[true, true, true, true, true, true, true, true, true, true, true, true, true, true, true, true, true, true, true, true, false, false, false, false] (by kernel_rfl) rfl rfl rfl rfl rfl (off_of hg37) rfl rfl (weak_refl) (listed' := #[true, true, true, true, true, true, true, true, true, true, true, true, true, true, true, true, true, true, true, true, true, false, false, false]) rfl ?_
              refine ge_one 21 (k' := 1) (listed' := #[true, true, true, true, true, true, true, true, true, true, true, true, true, true, true, true, true, true, true, true, true, true, false, false]) (by kernel_rfl) rfl rfl rfl ?_
              refine gop_off rfl rfl rfl rfl hg37 rfl rfl ?_
              refine gops_nil ?_
              refine ge_fin (TK := []) rfl (weak_nil) ?_
              refine ge_take 22 (TK := []) rfl (by kernel_rfl) (by kernel_rfl) (by kernel_rfl) #[true, true, true, true, true, true, true, true, true, true, true, true, true, true, true, true, true, true, true, true, true, true, false, false] (by kernel_rfl) rfl (y_pick_f (v := .bool _) rfl hg37 rfl) rfl rfl rfl (weak_nil) (listed' := #[true, true, true, true, true, true, true, true, true, true, true, true, true, true, true, true, true, true, true, true, true, true, true, false]) rfl ?_
              refine ge_take 23 (TK := []) rfl (by kernel_rfl) (by kernel_rfl) (by kernel_rfl) #[true, true, true, true, true, true, true, true, true, true, true, true, true, true, true, true, true, true, true, true, true, true, true, false] (by kernel_rfl) rfl (y_assign (v := .bool _) rfl) rfl rfl rfl (weak_nil) (listed' := #[true, true, true, true, true, true, true, true, true, true, true, true, true, true, true, true, true, true, true, true, true, true, true, true]) rfl ?_
              refine ge_done (by kernel_rfl) ?_
              refine gcut3_end (l) (hl) ⟨congrArg Value.bool (by rw [wk_name hi1 hc54 hj1, hg37d]; rfl), trivial⟩ ⟨rfl, rfl, rfl, trivial⟩ ⟨_, rfl⟩
          · 
            have hg26d := of_decide_eq_false hg26
            refine ge_take_off 5 (TK := [mapr _ _ _ _, fr]) rfl (by kernel_rfl) (by kernel_rfl) (by kernel_rfl) #[true, true, true, true, true, false, true, false, false, true, true, true, true, false, false, false, false, false, false, false, false, false, false, false] (by kernel_rfl) rfl rfl rfl rfl rfl (off_of hg26) rfl rfl (weak_refl) (listed' := #[true, true, true, true, true, true, false, false, false, false, false, false, false, false, false, false, false, false, false, false, false, false, false, false]) rfl ?_
            refine ge_take_off 6 (TK := [mapr _ _ _ _, fr]) rfl (by kernel_rfl) (by kernel_rfl) (by kernel_rfl) #[true, true, true, true, true, true, false, false, false, true, true, true, true, false, false, false, false, false, false, false, false, false, false, false] (by kernel_rfl) rfl rfl rfl rfl rfl (off_of hg26) rfl rfl (weak_refl) (listed' := #[true, true, true, true, true, true, true, false, false, false, false, false, false, false, false, false, false, false, false, false, false, false, false, false]) rfl ?_
            refine ge_take_off 7 (TK := [mapr _ _ _ _, fr]) rfl (by kernel_rfl) (by kernel_rfl) (by kernel_rfl) #[true, true, true, true, true, true, true, false, false, true, true, true, true, false, false, false, false, false, false, false, false, false, false, false] (by kernel_rfl) rfl rfl rfl rfl rfl (off_of hg26) rfl rfl (weak_refl) (listed' := #[true, true, true, true, true, true, true, true, false, false, false, false, false, false, false, false, false, false, false, false, false, false, false, false]) rfl ?_
            refine ge_take_off 8 (TK := [mapr _ _ _ _, fr]) rfl (by kernel_rfl) (by kernel_rfl) (by kernel_rfl) #[true, true, true, true, true, true, true, true, false, true, true, true, true, false, false, false, false, false, false, false, false, false, false, false] (by kernel_rfl) rfl rfl rfl rfl rfl (off_of hg26) rfl rfl (weak_refl) (listed' := #[true, true, true, true, true, true, true, true, true, false, false, false, false, false, false, false, false, false, false, false, false, false, false, false]) rfl ?_
            refine ge_take_off 9 (TK := [mapr _ _ _ _, fr]) rfl (by kernel_rfl) (by kernel_rfl) (by kernel_rfl) #[true, true, true, true, true, true, true, true, true, false, true, false, false, false, false, false, false, false, false, false, false, false, false, false] (by kernel_rfl) rfl rfl rfl rfl rfl (off_of hg26) rfl rfl (weak_refl) (listed' := #[true, true, true, true, true, true, true, true, true, true, false, false, false, false, false, false, false, false, false, false, false, false, false, false]) rfl ?_
            refine ge_take_off 10 (TK := [mapr _ _ _ _, fr]) rfl (by kernel_rfl) (by kernel_rfl) (by kernel_rfl) #[true, true, true, true, true, true, true, true, true, true, false, false, false, false, false, false, false, false, false, false, false, false, false, false] (by kernel_rfl) rfl rfl rfl rfl rfl (off_of hg26) rfl rfl (weak_refl) (listed' := #[true, true, true, true, true, true, true, true, true, true, true, false, false, false, false, false, false, false, false, false, false, false, false, false]) rfl ?_
            refine ge_take_off 11 (TK := [mapr _ _ _ _, fr]) rfl (by kernel_rfl) (by kernel_rfl) (by kernel_rfl) #[true, true, true, true, true, true, true, true, true, true, true, false, false, false, false, false, false, false, false, false, false, false, false, false] (by kernel_rfl) rfl rfl rfl rfl rfl (off_of hg26) rfl rfl (weak_refl) (listed' := #[true, true, true, true, true, true, true, true, true, true, true, true, false, false, false, false, false, false, false, false, false, false, false, false]) rfl ?_
            refine ge_take_off 12 (TK := [mapr _ _ _ _, fr]) rfl (by kernel_rfl) (by kernel_rfl) (by kernel_rfl) #[true, true, true, true, true, true, true, true, true, true, true, true, false, false, false, false, false, false, false, false, false, false, false, false] (by kernel_rfl) rfl rfl rfl rfl rfl (off_of hg26) rfl rfl (weak_refl) (listed' := #[true, true, true, true, true, true, true, true, true, true, true, true, true, false, false, false, false, false, false, false, false, false, false, false]) rfl ?_
            refine ge_one 13 (k' := 0) (listed' := #[true, true, true, true, true, true, true, true, true, true, true, true, true, true, false, false, false, false, false, false, false, false, false, false]) (by kernel_rfl) rfl rfl rfl ?_
            refine gop_off rfl rfl rfl rfl hg26 rfl rfl ?_
            refine gops_nil ?_
            refine ge_fin (TK := [mapr _ _ _ _, fr]) rfl (weak_refl) ?_
            refine ge_take 14 (TK := [mapr _ _ _ _, fr]) rfl (by kernel_rfl) (by kernel_rfl) (by kernel_rfl) #[true, true, true, true, true, true, true, true, true, true, true, true, true, true, false, false, false, false, false, false, false, false, false, false] (by kernel_rfl) rfl (y_pick_f (v := .bool _) rfl hg26 rfl) rfl rfl rfl (weak_refl) (listed' := #[true, true, true, true, true, true, true, true, true, true, true, true, true, true, true, false, false, false, false, false, false, false, false, false]) rfl ?_
            refine ge_take 15 (TK := [mapr _ _ _ _, fr]) rfl (by kernel_rfl) (by kernel_rfl) (by kernel_rfl) #[true, true, true, true, true, true, true, true, true, true, true, true, true, true, true, false, false, false, false, false, false, false, false, false] (by kernel_rfl) rfl (y_move (v := .bool _) rfl) rfl rfl rfl (weak_refl) (listed' := #[true, true, true, true, true, true, true, true, true, true, true, true, true, true, true, true, false, false, false, false, false, false, false, false]) rfl ?_
            refine ge_take_off 16 (TK := [mapr _ _ _ _, fr]) rfl (by kernel_rfl) (by kernel_rfl) (by kernel_rfl) #[true, true, true, true, true, true, true, true, true, true, true, true, true, true, true, true, false, true, true, true, true, false, false, false] (by kernel_rfl) rfl rfl rfl rfl rfl (off_of rfl) rfl rfl (weak_refl) (listed' := #[true, true, true, true, true, true, true, true, true, true, true, true, true, true, true, true, true, false, false, false, false, false, false, false]) rfl ?_
            refine ge_take_off 17 (TK := [mapr _ _ _ _, fr]) rfl (by kernel_rfl) (by kernel_rfl) (by kernel_rfl) #[true, true, true, true, true, true, true, true, true, true, true, true, true, true, true, true, true, false, false, true, true, false, false, false] (by kernel_rfl) rfl rfl rfl rfl rfl (off_of rfl) rfl rfl (weak_refl) (listed' := #[true, true, true, true, true, true, true, true, true, true, true, true, true, true, true, true, true, true, false, false, false, false, false, false]) rfl ?_
            refine ge_take_off 18 (TK := [mapr _ _ _ _, fr]) rfl (by kernel_rfl) (by kernel_rfl) (by kernel_rfl) #[true, true, true, true, true, true, true, true, true, true, true, true, true, true, true, true, true, true, false, true, true, false, false, false] (by kernel_rfl) rfl rfl rfl rfl rfl (off_of rfl) rfl rfl (weak_refl) (listed' := #[true, true, true, true, true, true, true, true, true, true, true, true, true, true, true, true, true, true, true, false, false, false, false, false]) rfl ?_
            refine ge_take_off 19 (TK := [mapr _ _ _ _, fr]) rfl (by kernel_rfl) (by kernel_rfl) (by kernel_rfl) #[true, true, true, true, true, true, true, true, true, true, true, true, true, true, true, true, true, true, true, false, false, false, false, false] (by kernel_rfl) rfl rfl rfl rfl rfl (off_of rfl) rfl rfl (weak_refl) (listed' := #[true, true, true, true, true, true, true, true, true, true, true, true, true, true, true, true, true, true, true, true, false, false, false, false]) rfl ?_
            refine ge_take_off 20 (TK := [mapr _ _ _ _, fr]) rfl (by kernel_rfl) (by kernel_rfl) (by kernel_rfl) #[true, true, true, true, true, true, true, true, true, true, true, true, true, true, true, true, true, true, true, true, false, false, false, false] (by kernel_rfl) rfl rfl rfl rfl rfl (off_of rfl) rfl rfl (weak_refl) (listed' := #[true, true, true, true, true, true, true, true, true, true, true, true, true, true, true, true, true, true, true, true, true, false, false, false]) rfl ?_
            refine ge_one 21 (k' := 1) (listed' := #[true, true, true, true, true, true, true, true, true, true, true, true, true, true, true, true, true, true, true, true, true, true, false, false]) (by kernel_rfl) rfl rfl rfl ?_
            refine gop_off rfl rfl rfl rfl rfl rfl rfl ?_
            refine gops_nil ?_
            refine ge_fin (TK := []) rfl (weak_nil) ?_
            refine ge_take 22 (TK := []) rfl (by kernel_rfl) (by kernel_rfl) (by kernel_rfl) #[true, true, true, true, true, true, true, true, true, true, true, true, true, true, true, true, true, true, true, true, true, true, false, false] (by kernel_rfl) rfl (y_pick_f (v := .bool _) rfl rfl rfl) rfl rfl rfl (weak_nil) (listed' := #[true, true, true, true, true, true, true, true, true, true, true, true, true, true, true, true, true, true, true, true, true, true, true, false]) rfl ?_
            refine ge_take 23 (TK := []) rfl (by kernel_rfl) (by kernel_rfl) (by kernel_rfl) #[true, true, true, true, true, true, true, true, true, true, true, true, true, true, true, true, true, true, true, true, true, true, true, false] (by kernel_rfl) rfl (y_assign (v := .bool _) rfl) rfl rfl rfl (weak_nil) (listed' := #[true, true, true, true, true, true, true, true, true, true, true, true, true, true, true, true, true, true, true, true, true, true, true, true]) rfl ?_
            refine ge_done (by kernel_rfl) ?_
            refine gcut3_end (l) (hl) ⟨congrArg Value.bool (wk_name0 hi1 hc54 (by omega)).symm, trivial⟩ ⟨rfl, rfl, rfl, trivial⟩ ⟨_, rfl⟩
    ·
      intro l1 hcut σ
      refine hN7 _ _ ?_
      have hl1 := hcut
      refine gseq fun N10 hN10 => ?_
      refine greg ?_
      refine gop (y_load Tryz.isAgg202 rfl (fun w hM => (hF w (hM.ok _ (List.mem_of_getElem? (i := 1) rfl))).1)) rfl rfl rfl ?_
      refine gop (y_move (v := .int _ _) rfl) rfl rfl rfl ?_
      refine gop (y_move (v := .int _ _) rfl) rfl rfl rfl ?_
      refine gop (y_build (vs := [(0, .int _ _), (1, .int _ _)]) (cells := #[_, _]) rfl (bd171_0_1 _ _)) rfl rfl rfl ?_
      refine gop (y_move (v := .bool _) rfl) rfl rfl rfl ?_
      refine gop_mapUpdate 0 key2 Tryz.underlying202 rfl ((i, j)) (_) rfl rfl rfl rfl rfl ?_
      refine gops_nil ?_
      refine hN10 _ _ ?_
      refine gT [mapr _ _ _ _, fr] rfl ?_
      refine gfrom [(11, .bool _)] ⟨rfl, trivial⟩ fun σ => ?_
      refine gseq fun N11 hN11 => ?_
      refine greg ?_
      refine gop (y_move (v := .bool _) rfl) rfl rfl rfl ?_
      refine gop (y_assign (v := .bool _) rfl) rfl rfl rfl ?_
      refine gops_nil ?_
      refine hN11 _ _ ?_
      refine gfrom [(8, .bool _)] ⟨rfl, trivial⟩ fun σ => ?_
      refine gret fun w1 hM => ?_
      refine ⟨_, res1 rfl (rt (v := .bool _) rfl), ?_⟩
      exact ⟨rfl, _, memo_put hl1 i j, hM⟩
set_option maxHeartbeats 1000000 in
theorem walk_any (w : World) (P N : List ByteArray) (A1 A2 : Option Addr) (c1 c2 : Nat) (hPs : ∀ x ∈ P, x.size ≤ 4000000) (hNs : ∀ x ∈ N, x.size ≤ 4000000) (hPl : P.length ≤ 4000001) (hNl : N.length ≤ 4000001) (hP : Rdl w 0 1 strCells A1 P) (hN : Rdl w 0 1 strCells A2 N) : Calls Tryz.prog 107 #[.slice A1 P.length c1, .slice A2 N.length c2] w fun e w' => e = .returned (.bool (wkAt P N 0 0)) ∧ Below w.heap.size w w' := by
  refine gcalls Tryz.func107 rfl Tryz.ntmps107 (Nat.le_of_ble_eq_true rfl) ?_
  refine gfrom [(0, .slice _ _ _), (1, .slice _ _ _)] ⟨rfl, rfl, trivial⟩ fun σ => ?_
  refine gseq fun N1 hN1 => ?_
  refine greg ?_
  refine gop_box (v := .slice _ _ _) (cs := #[_]) rfl rfl rfl (fun b2 hb2 => ?_)
  refine gop_box (v := .slice _ _ _) (cs := #[_]) rfl rfl rfl (fun b3 hb3 => ?_)
  refine gop (y_assign (v := .bool _) rfl) rfl rfl rfl ?_
  refine gops_nil ?_
  refine hN1 _ _ ?_
  refine gT [box b2 _, box b3 _] rfl ?_
  refine gfrom [(2, .pointer _), (3, .pointer _)] ⟨rfl, rfl, trivial⟩ fun σ => ?_
  refine gseq fun N2 hN2 => ?_
  refine greg ?_
  refine gop_makeMap ek2 Value.bool rfl (fun b7 hb7 => ?_)
  refine gop_alloc (cs := #[.map none]) Tryz.zeroValue202 rfl rfl (fun b5 hb5 => ?_)
  refine gop_store 3 (v := .map (some b7)) (cs' := #[_]) rfl rfl Tryz.sizeOf202 rfl rfl rfl rfl (Nat.le_of_ble_eq_true rfl) rfl rfl ?_
  refine gops_nil ?_
  refine hN2 _ _ ?_
  refine gT [box b2 _, box b3 _, mapr _ _ _ _, box b5 _] rfl ?_
  refine gfrom [(2, .pointer _), (3, .pointer _), (5, .pointer _)] ⟨rfl, rfl, rfl, trivial⟩ fun σ => ?_
  refine gseq fun N3 hN3 => ?_
  refine greg ?_
  refine gop_alloc (cs := #[.nilFunc]) Tryz.zeroValue203 rfl rfl (fun b6 hb6 => ?_)
  refine gops_nil ?_
  refine hN3 _ _ ?_
  refine gT [box b2 _, box b3 _, mapr _ _ _ _, box b5 _, box b6 _] rfl ?_
  refine gfrom [(2, .pointer _), (3, .pointer _), (5, .pointer _), (6, .pointer _)] ⟨rfl, rfl, rfl, rfl, trivial⟩ fun σ => ?_
  refine gseq fun N4 hN4 => ?_
  refine greg ?_
  refine gop (y_makeFunc (vs := [.pointer (some ⟨b5, 0, none⟩), .pointer (some ⟨b2, 0, none⟩), .pointer (some ⟨b3, 0, none⟩), .pointer (some ⟨b6, 0, none⟩)]) rfl) rfl rfl rfl ?_
  refine gop_store 4 (v := .func (.func 132) #[] #[.pointer (some ⟨b5, 0, none⟩), .pointer (some ⟨b2, 0, none⟩), .pointer (some ⟨b3, 0, none⟩), .pointer (some ⟨b6, 0, none⟩)]) (cs' := #[_]) rfl rfl Tryz.sizeOf203 rfl rfl rfl rfl (Nat.le_of_ble_eq_true rfl) rfl rfl ?_
  refine gops_nil ?_
  refine hN4 _ _ ?_
  refine gT [box b2 _, box b3 _, mapr _ _ _ _, box b5 _, box b6 _] rfl ?_
  refine gfrom [(6, .pointer _)] ⟨rfl, trivial⟩ fun σ => ?_
  refine gseq fun N5 hN5 => ?_
  refine greg ?_
  refine gop (y_load Tryz.isAgg203 rfl (cell_box 4 rfl rfl)) rfl rfl rfl ?_
  refine gop_does1 2 (fun v r G => ∃ l1, v = .bool (wkAt P N 0 0) ∧ r = mapr ek2 Value.bool b7 l1 ∧ G = []) (e_callv (vs := [.int _ _, .int _ _]) (cs := [.pointer (some ⟨b5, 0, none⟩), .pointer (some ⟨b2, 0, none⟩), .pointer (some ⟨b3, 0, none⟩), .pointer (some ⟨b6, 0, none⟩)]) rfl Tryz.func132 rfl (by kernel_rfl) rfl) rfl (fun w fr1 hfr hM => (walk1_any P N _ _ _ _ b7 b5 b2 b3 b6 hPs hNs hPl hNl _ hP hN _ 0 0 w [] fr1 (fun w1 ho => ⟨box_cell (hfr 3 _ rfl (by decide) w1 ho) rfl, box_cell (hfr 0 _ rfl (by decide) w1 ho) rfl, box_cell (hfr 1 _ rfl (by decide) w1 ho) rfl, box_cell (hfr 4 _ rfl (by decide) w1 ho) rfl⟩) rfl (Nat.zero_le _) (Nat.zero_le _) (memo_nil _) hM).mono fun _ _ ⟨he, l1, h1, h2⟩ => ⟨_, _, [], he, ⟨l1, rfl, rfl, rfl⟩, h2⟩) rfl rfl rfl ?_
  rintro _ _ _ ⟨l1, rfl, rfl, rfl⟩
  refine gop (y_assign (v := .bool _) rfl) rfl rfl rfl ?_
  refine gops_nil ?_
  refine hN5 _ _ ?_
  refine gT [box b2 _, box b3 _, mapr _ _ _ _, box b5 _, box b6 _] rfl ?_
  refine gfrom [(4, .bool _)] ⟨rfl, trivial⟩ fun σ => ?_
  refine gret fun w1 hM => ?_
  refine ⟨_, res1 rfl (rt (v := .bool _) rfl), ?_⟩
  exact ⟨rfl, hM.low⟩
set_option maxHeartbeats 1000000 in
theorem matches_any (w : World) (p s : ByteArray) (hp : p.size ≤ 4000000) (hs : s.size ≤ 4000000) : Calls Tryz.prog 76 #[.string p, .string s] w fun e w' => e = .returned (.bool (wk (cutS p) (cutS s))) ∧ Below w.heap.size w w' := by
  have hc1 := cutS_len p
  have hc2 := cutS_len s
  refine gcalls Tryz.func76 rfl Tryz.ntmps76 (Nat.le_of_ble_eq_true rfl) ?_
  refine gfrom [(0, .string _), (1, .string _)] ⟨rfl, rfl, trivial⟩ fun σ => ?_
  refine gseq fun N1 hN1 => ?_
  refine greg ?_
  refine gop (y_assign (v := .bool _) rfl) rfl rfl rfl ?_
  refine gops_nil ?_
  refine hN1 _ _ ?_
  refine gfrom [(0, .string _), (1, .string _)] ⟨rfl, rfl, trivial⟩ fun σ => ?_
  refine gseq fun N2 hN2 => ?_
  refine greg ?_
  refine gop (y_move (v := .string _) rfl) rfl rfl rfl ?_
  refine gop_got (fun v T' => ∃ lo, w.heap.size ≤ lo ∧ T' = [rowl strCells lo 9 1 v (cutS p)]) (e_call (vs := [.string _, _]) Tryz.func108 rfl (by kernel_rfl) rfl) (fun w hM => (split_any w p hp).mono fun _ _ ⟨v, T1, h1, h2, h3⟩ => ⟨v, T1, h1, ⟨_, hM.low.size, h2⟩, h3⟩) rfl rfl rfl ?_
  rintro v6 _ ⟨lo6, hlo6, rfl⟩
  refine gops_fact (fun w hM => row_form (hM.ok _ (List.mem_of_getElem? (i := 0) rfl))) ?_
  rintro ⟨A6, c6, rfl, hc6, hm6, hn6⟩
  refine gop (y_move (v := .string _) rfl) rfl rfl rfl ?_
  refine gop_got (fun v T' => ∃ lo, w.heap.size ≤ lo ∧ T' = [rowl strCells lo 9 1 v (cutS s)]) (e_call (vs := [.string _, _]) Tryz.func108 rfl (by kernel_rfl) rfl) (fun w hM => (split_any w s hs).mono fun _ _ ⟨v, T1, h1, h2, h3⟩ => ⟨v, T1, h1, ⟨_, hM.low.size, h2⟩, h3⟩) rfl rfl rfl ?_
  rintro v8 _ ⟨lo8, hlo8, rfl⟩
  refine gops_fact (fun w hM => row_form (hM.ok _ (List.mem_of_getElem? (i := 1) rfl))) ?_
  rintro ⟨A8, c8, rfl, hc8, hm8, hn8⟩
  refine gop_pure (e_call (vs := [.slice A6 _ c6, .slice A8 _ c8]) Tryz.func107 rfl (by kernel_rfl) rfl) (fun w hM => walk_any w (cutS p) (cutS s) _ _ _ _ (fun _ h => cutS_size h hp) (fun _ h => cutS_size h hs) (by omega) (by omega) ((row_rdl (f := strCells) (fun _ => rfl) (hM.ok _ (List.mem_of_getElem? (i := 0) rfl))).mono (Nat.zero_le _)) ((row_rdl (f := strCells) (fun _ => rfl) (hM.ok _ (List.mem_of_getElem? (i := 1) rfl))).mono (Nat.zero_le _))) rfl rfl rfl ?_
  refine gop (y_assign (v := .bool _) rfl) rfl rfl rfl ?_
  refine gops_nil ?_
  refine hN2 _ _ ?_
  refine gT [rowl _ _ _ _ _ _, rowl _ _ _ _ _ _] rfl ?_
  refine gfrom [(4, .bool _)] ⟨rfl, trivial⟩ fun σ => ?_
  refine gret fun w1 hM => ?_
  refine ⟨_, res1 rfl (rt (v := .bool _) rfl), ?_⟩
  exact ⟨rfl, hM.low⟩
end Go.Proofs.YtbkameioedmlkaaGreatDoor
namespace Go.Cf
open Go.RowKit
abbrev Pl := Nat × Nat × Nat
def wildB (c : Nat) : Bool := decide (c = 42) || decide (c = 63)
def nxA (p : ByteArray) (x : Pl) : List Pl := if x.1 < p.size ∧ byteAt p x.1 = 42 then [(x.1 + 1, x.2.1, x.2.2)] else []
def nxB (q : ByteArray) (x : Pl) : List Pl := if x.2.1 < q.size ∧ byteAt q x.2.1 = 42 then [(x.1, x.2.1 + 1, x.2.2)] else []
def fits (p q : ByteArray) (x : Pl) : Prop := wildB (byteAt p x.1) = true ∨ wildB (byteAt q x.2.1) = true ∨ byteAt p x.1 = byteAt q x.2.1
instance (p q : ByteArray) (x : Pl) : Decidable (fits p q x) := by unfold fits; infer_instance
def nxI (p : ByteArray) (x : Pl) : Nat := if byteAt p x.1 = 42 then x.1 else x.1 + 1
def nxJ (q : ByteArray) (x : Pl) : Nat := if byteAt q x.2.1 = 42 then x.2.1 else x.2.1 + 1
def nxD (p q : ByteArray) (x : Pl) : Nat := if byteAt p x.1 = 46 ∨ byteAt q x.2.1 = 46 then min (x.2.2 + 1) 3 else 3
def nxC (p q : ByteArray) (x : Pl) : List Pl := if x.1 < p.size ∧ x.2.1 < q.size ∧ fits p q x then [(nxI p x, nxJ q x, nxD p q x)] else []
def nextL (p q : ByteArray) (x : Pl) : List Pl := nxA p x ++ nxB q x ++ nxC p q x
theorem nxA_len (p : ByteArray) (x : Pl) : (nxA p x).length ≤ 1 := by unfold nxA; split <;> simp
theorem nxB_len (p : ByteArray) (x : Pl) : (nxB p x).length ≤ 1 := by unfold nxB; split <;> simp
theorem nxC_len (p q : ByteArray) (x : Pl) : (nxC p q x).length ≤ 1 := by unfold nxC; split <;> simp
theorem nextL_len (p q : ByteArray) (x : Pl) : (nextL p q x).length ≤ 3 := by
  have := nxA_len p x; have := nxB_len q x; have := nxC_len p q x
  unfold nextL; simp; omega
end Go.Cf
namespace Go.Cf
open Go.RowKit
section
variable {w0 : World} {T : List Reg}
variable {P : Program} {ρ : Env} {dst : Option Tmp} {ty : TypeId} {pos : String} {af : Array Edge} {gd : Option (Nat × Bool)} {x z : Operand} {t : TypeId}
theorem y_cat {yt : TypeId} {y : Operand} {a b : ByteArray} (hx : ev ρ x = .string a) (hy : ev ρ y = .string b) (h : a.size + b.size ≤ 9223372036854775807) :
    Yield P w0 T ρ ⟨dst, .binOp .add t x y yt, ty, pos, af, gd⟩ (.string (a ++ b)) := fun w _ => by
  have h1 : ¬ (((a.size + b.size : Nat) : Int) > IntKind.i64.max) := by
    have : IntKind.i64.max = 9223372036854775807 := by decide
    omega
  have h2 : (Op.stringOp .add a b).run P w = .ok (.string (a ++ b)) w := by
    unfold Op.stringOp
    simp only [if_neg h1]
    rfl
  simp only [execOp, go_sem, hx, hy]
  simp [h2]
end
end Go.Cf
namespace Go.Cf
open Go.RowKit
def goalP (p q : ByteArray) : Pl := (p.size, q.size, 3)
inductive Reach (p q : ByteArray) : Pl → Prop
  | start : Reach p q (0, 0, 0)
  | step {x y : Pl} : Reach p q x → y ∈ nextL p q x → Reach p q y
inductive To (p q : ByteArray) : Pl → Prop
  | here : To p q (goalP p q)
  | step {x y : Pl} : y ∈ nextL p q x → To p q y → To p q x
def okPl (p q : ByteArray) (x : Pl) : Prop := x.1 ≤ p.size ∧ x.2.1 ≤ q.size ∧ x.2.2 ≤ 3
theorem nextL_mem {p q : ByteArray} {x y : Pl} : y ∈ nextL p q x ↔ (x.1 < p.size ∧ byteAt p x.1 = 42 ∧ y = (x.1 + 1, x.2.1, x.2.2)) ∨ (x.2.1 < q.size ∧ byteAt q x.2.1 = 42 ∧ y = (x.1, x.2.1 + 1, x.2.2)) ∨ (x.1 < p.size ∧ x.2.1 < q.size ∧ fits p q x ∧ y = (nxI p x, nxJ q x, nxD p q x)) := by
  unfold nextL nxA nxB nxC
  rw [List.mem_append, List.mem_append]
  constructor
  · rintro ((h | h) | h)
    · split at h
      · rename_i hc; exact .inl ⟨hc.1, hc.2, by simpa using h⟩
      · simp at h
    · split at h
      · rename_i hc; exact .inr (.inl ⟨hc.1, hc.2, by simpa using h⟩)
      · simp at h
    · split at h
      · rename_i hc; exact .inr (.inr ⟨hc.1, hc.2.1, hc.2.2, by simpa using h⟩)
      · simp at h
  · rintro (⟨h1, h2, h3⟩ | ⟨h1, h2, h3⟩ | ⟨h1, h2, h3, h4⟩)
    · left; left; rw [if_pos ⟨h1, h2⟩, h3]; simp
    · left; right; rw [if_pos ⟨h1, h2⟩, h3]; simp
    · right; rw [if_pos ⟨h1, h2, h3⟩, h4]; simp
theorem nxI_le {p : ByteArray} {x : Pl} : x.1 ≤ nxI p x ∧ nxI p x ≤ x.1 + 1 := by unfold nxI; split <;> omega
theorem nxJ_le {q : ByteArray} {x : Pl} : x.2.1 ≤ nxJ q x ∧ nxJ q x ≤ x.2.1 + 1 := by unfold nxJ; split <;> omega
theorem nxD_le {p q : ByteArray} {x : Pl} : nxD p q x ≤ 3 ∧ (x.2.2 ≤ 3 → x.2.2 ≤ nxD p q x) := by unfold nxD; split <;> omega
theorem next_ok {p q : ByteArray} {x y : Pl} (hx : okPl p q x) (h : y ∈ nextL p q x) : okPl p q y := by
  obtain ⟨h1, h2, h3⟩ := hx
  have i := @nxI_le p x; have j := @nxJ_le q x; have d := @nxD_le p q x
  rcases nextL_mem.1 h with ⟨a, _, rfl⟩ | ⟨a, _, rfl⟩ | ⟨a, b, _, rfl⟩
  · exact ⟨a, h2, h3⟩
  · exact ⟨h1, a, h3⟩
  · exact ⟨by show nxI p x ≤ _; omega, by show nxJ q x ≤ _; omega, d.1⟩
def rankP (p q : ByteArray) (x : Pl) : Nat := (p.size - x.1) + (q.size - x.2.1) + (3 - x.2.2)
theorem next_rank {p q : ByteArray} {x y : Pl} (hx : okPl p q x) (h : y ∈ nextL p q x) (hne : y ≠ x) : rankP p q y < rankP p q x := by
  obtain ⟨h1, h2, h3⟩ := hx
  have i := @nxI_le p x; have j := @nxJ_le q x; have d := @nxD_le p q x
  obtain ⟨x1, x2, x3⟩ := x
  rcases nextL_mem.1 h with ⟨a, _, rfl⟩ | ⟨a, _, rfl⟩ | ⟨a, b, _, rfl⟩
  · simp only [rankP] at *; omega
  · simp only [rankP] at *; omega
  · have hne' : ¬ (nxI p (x1, x2, x3) = x1 ∧ nxJ q (x1, x2, x3) = x2 ∧ nxD p q (x1, x2, x3) = x3) := fun ⟨e1, e2, e3⟩ => hne (by rw [e1, e2, e3])
    simp only [rankP] at *; omega
theorem Reach.ok {p q : ByteArray} {x : Pl} (h : Reach p q x) : okPl p q x := by
  induction h with
  | start => exact ⟨Nat.zero_le _, Nat.zero_le _, Nat.zero_le _⟩
  | step _ h ih => exact next_ok ih h
def fromB (p q : ByteArray) : Nat → Pl → Bool
  | 0, _ => false
  | n + 1, x => decide (x = goalP p q) || (nextL p q x).any (fun y => decide (y ≠ x) && fromB p q n y)
def commonB (p q : ByteArray) : Bool := fromB p q (p.size + q.size + 4) (0, 0, 0)
theorem fromB_to {p q : ByteArray} : ∀ (n : Nat) (x : Pl), fromB p q n x = true → To p q x
  | 0, _, h => by simp [fromB] at h
  | n + 1, x, h => by
    rw [fromB, Bool.or_eq_true] at h
    rcases h with h | h
    · rw [of_decide_eq_true h]; exact .here
    · obtain ⟨y, hy, h1⟩ := List.any_eq_true.1 h
      rw [Bool.and_eq_true] at h1
      exact .step hy (fromB_to n y h1.2)
theorem to_fromB {p q : ByteArray} {x : Pl} (h : To p q x) : okPl p q x → ∀ n, rankP p q x < n → fromB p q n x = true := by
  induction h with
  | here =>
    intro _ n hn
    obtain ⟨m, rfl⟩ : ∃ m, n = m + 1 := ⟨n - 1, by omega⟩
    simp [fromB]
  | @step x y hy _ ih =>
    intro hx n hn
    by_cases e : y = x
    · subst e; exact ih hx n hn
    · obtain ⟨m, rfl⟩ : ∃ m, n = m + 1 := ⟨n - 1, by omega⟩
      have hr := next_rank hx hy e
      rw [fromB, Bool.or_eq_true]; right
      rw [List.any_eq_true]
      exact ⟨y, hy, by rw [Bool.and_eq_true]; exact ⟨decide_eq_true e, ih (next_ok hx hy) m (by omega)⟩⟩
theorem to_of_reach {p q : ByteArray} {x : Pl} (h : Reach p q x) : To p q x → To p q (0, 0, 0) := by
  induction h with
  | start => exact id
  | step _ hy ih => exact fun h => ih (.step hy h)
theorem reach_of_to {p q : ByteArray} {x : Pl} (h : To p q x) : Reach p q x → Reach p q (goalP p q) := by
  induction h with
  | here => exact id
  | step hy _ ih => exact fun h => ih (.step h hy)
theorem commonB_to {p q : ByteArray} : commonB p q = true ↔ To p q (0, 0, 0) :=
  ⟨fromB_to _ _, fun h => to_fromB h ⟨Nat.zero_le _, Nat.zero_le _, Nat.zero_le _⟩ _ (by simp [rankP])⟩
theorem commonB_reach {p q : ByteArray} : commonB p q = true ↔ Reach p q (goalP p q) :=
  commonB_to.trans ⟨fun h => reach_of_to h .start, fun h => to_of_reach h .here⟩
structure Dfs (p q : ByteArray) (l S : List Pl) : Prop where
  nodup : S.Nodup
  reach : ∀ x, x ∈ l ∨ x ∈ S → Reach p q x
  start : (0, 0, 0) ∈ l ∨ (0, 0, 0) ∈ S
  next : ∀ x, x ∈ S → ∀ y ∈ nextL p q x, y ∈ l ∨ y ∈ S
  goal : ∀ x, x ∈ S → x ≠ goalP p q
  len : l.length ≤ 2 * S.length + 1
section
variable {p q : ByteArray} {l S : List Pl} {x : Pl}
theorem Dfs.first : Dfs p q [(0, 0, 0)] [] := ⟨List.nodup_nil, fun x hx => by simp at hx; subst hx; exact .start, by simp, by simp, by simp, by simp⟩
theorem Dfs.skip (h : Dfs p q (l ++ [x]) S) (hx : x ∈ S) : Dfs p q l S := by
  have key : ∀ y, y ∈ l ++ [x] ∨ y ∈ S → y ∈ l ∨ y ∈ S := by
    intro y hy
    rcases hy with hy | hy
    · rcases List.mem_append.1 hy with hy | hy
      · exact .inl hy
      · rw [List.mem_singleton.1 hy]; exact .inr hx
    · exact .inr hy
  exact ⟨h.nodup, fun y hy => h.reach y (hy.imp (fun h => by simp [h]) id), key _ h.start, fun a ha y hy => key y (h.next a ha y hy), h.goal, by have := h.len; simp at this; omega⟩
theorem Dfs.take (h : Dfs p q (l ++ [x]) S) (hx : x ∉ S) (hg : x ≠ goalP p q) : Dfs p q (l ++ nextL p q x) (S ++ [x]) := by
  have hr := h.reach x (.inl (by simp))
  have key : ∀ y, y ∈ l ++ [x] ∨ y ∈ S → y ∈ l ++ nextL p q x ∨ y ∈ S ++ [x] := by
    intro y hy
    rcases hy with hy | hy
    · rcases List.mem_append.1 hy with hy | hy
      · exact .inl (by simp [hy])
      · exact .inr (by simp [List.mem_singleton.1 hy])
    · exact .inr (by simp [hy])
  refine ⟨?_, ?_, key _ h.start, ?_, ?_, ?_⟩
  · rw [List.nodup_append]
    exact ⟨h.nodup, by simp, fun a ha b hb => by rw [List.mem_singleton.1 hb]; rintro rfl; exact hx ha⟩
  · rintro y (hy | hy)
    · rcases List.mem_append.1 hy with hy | hy
      · exact h.reach y (.inl (by simp [hy]))
      · exact .step hr hy
    · rcases List.mem_append.1 hy with hy | hy
      · exact h.reach y (.inr hy)
      · rw [List.mem_singleton.1 hy]; exact hr
  · intro a ha y hy
    rcases List.mem_append.1 ha with ha | ha
    · exact key y (h.next a ha y hy)
    · rw [List.mem_singleton.1 ha] at hy; exact .inl (by simp [hy])
  · intro a ha
    rcases List.mem_append.1 ha with ha | ha
    · exact h.goal a ha
    · rw [List.mem_singleton.1 ha]; exact hg
  · have h1 := h.len
    have h2 := nextL_len p q x
    simp at h1 ⊢; omega
theorem Dfs.hit (h : Dfs p q (l ++ [x]) S) (hg : x = goalP p q) : commonB p q = true :=
  commonB_reach.2 (by rw [← hg]; exact h.reach x (.inl (by simp)))
end
def ovN (p : ByteArray) (f : List ByteArray → Bool) : List ByteArray → Bool
  | [] => false
  | q :: Q => if strEq q sStars then ovN p f Q || f (q :: Q) else commonB p q && f Q
def ov : List ByteArray → List ByteArray → Bool
  | [], Q => Q.all (strEq · sStars)
  | p :: P, Q => if strEq p sStars then starW (ov P) Q else ovN p (ov P) Q
end Go.Cf
namespace Go.Cf
open Go.RowKit
inductive Pm (p s : ByteArray) : Nat → Nat → Prop
  | start : Pm p s 0 0
  | star {i k : Nat} : Pm p s i k → i < p.size → byteAt p i = 42 → Pm p s (i + 1) k
  | eat {i k : Nat} : Pm p s i k → i < p.size → k < s.size → byteAt p i = 42 → Pm p s i (k + 1)
  | char {i k : Nat} : Pm p s i k → i < p.size → k < s.size → byteAt p i ≠ 42 → (byteAt p i = 63 ∨ byteAt p i = byteAt s k) → Pm p s (i + 1) (k + 1)
section
variable {p s : ByteArray}
theorem get_set_true {l : List Bool} {a i : Nat} (h : (l.set a true)[i]? = some true) : i = a ∨ l[i]? = some true := by
  rw [List.getElem?_set] at h
  split at h
  · rename_i e; exact .inl e.symm
  · exact .inr h
theorem set_true_get {l : List Bool} {a i : Nat} (h : l[i]? = some true) : (l.set a true)[i]? = some true := by
  rw [List.getElem?_set]
  split
  · rename_i e; subst e
    have := (List.getElem?_eq_some_iff.1 h).1
    rw [if_pos this]
  · exact h
theorem set_true_self {l : List Bool} {a : Nat} (h : a < l.length) : (l.set a true)[a]? = some true := by
  rw [List.getElem?_set_self h]
theorem stars_sound {l : List Bool} {k : Nat} (h : ∀ i, l[i]? = some true → Pm p s i k) : ∀ m, m ≤ p.size → ∀ i, (starsTo p l m)[i]? = some true → Pm p s i k
  | 0, _, i, hi => h i hi
  | m + 1, hm, i, hi => by
    rw [starsTo] at hi
    split at hi
    · rename_i hc
      rcases get_set_true hi with rfl | hi
      · exact .star (stars_sound h m (by omega) m hc.2) (by omega) hc.1
      · exact stars_sound h m (by omega) i hi
    · exact stars_sound h m (by omega) i hi
theorem next_sound {l : List Bool} {k : Nat} (hk : k < s.size) (h : ∀ i, l[i]? = some true → Pm p s i k) : ∀ m, m ≤ p.size → ∀ i, (nextTo p (byteAt s k) l m)[i]? = some true → Pm p s i (k + 1)
  | 0, _, i, hi => by
    rw [nextTo, List.getElem?_replicate] at hi
    split at hi <;> cases hi
  | m + 1, hm, i, hi => by
    rw [nextTo] at hi
    have ih := next_sound hk h m (by omega)
    split at hi
    · rename_i hl
      split at hi
      · rename_i hc
        rcases get_set_true hi with rfl | hi
        · exact .eat (h _ hl) (by omega) hk hc
        · exact ih i hi
      · rename_i hc
        split at hi
        · rename_i hd
          rcases get_set_true hi with rfl | hi
          · exact .char (h _ hl) (by omega) hk hc hd
          · exact ih i hi
        · exact ih i hi
    · exact ih i hi
theorem run_sound : ∀ k, k ≤ s.size → ∀ i, (nameRun p s k)[i]? = some true → Pm p s i k
  | 0, _, i, hi => by
    refine stars_sound (fun j hj => ?_) p.size (Nat.le_refl _) i hi
    cases j with
    | zero => exact .start
    | succ j => rw [List.getElem?_cons_succ, List.getElem?_replicate] at hj; split at hj <;> cases hj
  | k + 1, hk, i, hi => stars_sound (next_sound (by omega) (run_sound k (by omega)) p.size (Nat.le_refl _)) p.size (Nat.le_refl _) i hi
theorem stars_mono {l : List Bool} {i : Nat} (h : l[i]? = some true) : ∀ m, (starsTo p l m)[i]? = some true
  | 0 => h
  | m + 1 => by
    rw [starsTo]
    split
    · exact set_true_get (stars_mono h m)
    · exact stars_mono h m
theorem stars_keep {l : List Bool} {i m n : Nat} (hmn : m ≤ n) (h : (starsTo p l m)[i]? = some true) : (starsTo p l n)[i]? = some true := by
  induction n with
  | zero => obtain rfl : m = 0 := by omega
            exact h
  | succ n ih =>
    rcases Nat.lt_or_ge n m with h1 | h1
    · obtain rfl : m = n + 1 := by omega
      exact h
    · rw [starsTo]
      split
      · exact set_true_get (ih h1)
      · exact ih h1
theorem stars_back {l : List Bool} {i : Nat} : ∀ n, i < n → (starsTo p l n)[i]? = some true → (starsTo p l i)[i]? = some true
  | 0, h, _ => by omega
  | n + 1, h, hn => by
    rw [starsTo] at hn
    have key : (starsTo p l n)[i]? = some true := by
      split at hn
      · rcases get_set_true hn with e | e
        · omega
        · exact e
      · exact hn
    rcases Nat.lt_or_ge i n with h1 | h1
    · exact stars_back n h1 key
    · obtain rfl : i = n := by omega
      exact key
theorem stars_close {l : List Bool} {i : Nat} (hl : l.length = p.size + 1) (hi : i < p.size) (hc : byteAt p i = 42) (h : (starsTo p l p.size)[i]? = some true) : (starsTo p l p.size)[i + 1]? = some true := by
  have h1 := stars_back p.size hi h
  refine stars_keep (m := i + 1) hi ?_
  rw [starsTo, if_pos ⟨hc, h1⟩]
  exact set_true_self (by rw [starsTo_len]; omega)
theorem next_keep {l : List Bool} {c i m n : Nat} (hmn : m ≤ n) (h : (nextTo p c l m)[i]? = some true) : (nextTo p c l n)[i]? = some true := by
  induction n with
  | zero => obtain rfl : m = 0 := by omega
            exact h
  | succ n ih =>
    rcases Nat.lt_or_ge n m with h1 | h1
    · obtain rfl : m = n + 1 := by omega
      exact h
    · rw [nextTo]
      (repeat' split) <;> first | exact set_true_get (ih h1) | exact ih h1
theorem next_eat {l : List Bool} {c i : Nat} (hi : i < p.size) (h : l[i]? = some true) (hc : byteAt p i = 42) : (nextTo p c l p.size)[i]? = some true := by
  refine next_keep (m := i + 1) hi ?_
  rw [nextTo, if_pos h, if_pos hc]
  exact set_true_self (by rw [nextTo_len]; omega)
theorem next_char {l : List Bool} {c i : Nat} (hi : i < p.size) (h : l[i]? = some true) (hc : byteAt p i ≠ 42) (hd : byteAt p i = 63 ∨ byteAt p i = c) : (nextTo p c l p.size)[i + 1]? = some true := by
  refine next_keep (m := i + 1) hi ?_
  rw [nextTo, if_pos h, if_neg hc, if_pos hd]
  exact set_true_self (by rw [nextTo_len]; omega)
theorem run_complete {i k : Nat} (h : Pm p s i k) : (nameRun p s k)[i]? = some true := by
  induction h with
  | start => rw [nameRun]; exact stars_mono rfl _
  | @star i k _ hi hc ih =>
    cases k with
    | zero => rw [nameRun] at ih ⊢; exact stars_close (by simp) hi hc ih
    | succ k => rw [nameRun] at ih ⊢; exact stars_close (nextTo_len _ _ _ _) hi hc ih
  | eat _ hi hk hc ih => rw [nameRun]; exact stars_mono (next_eat hi ih hc) _
  | char _ hi hk hc hd ih => rw [nameRun]; exact stars_mono (next_char hi ih hc hd) _
theorem nameM_pm : nameM p s = true ↔ Pm p s p.size s.size := by
  have h0 := nameRun_len p s s.size
  unfold nameM
  constructor
  · intro h
    refine run_sound _ (Nat.le_refl _) _ ?_
    rw [List.getElem?_eq_getElem (by omega)] at h ⊢
    simpa using h
  · intro h
    rw [run_complete h]; rfl
end
section
variable {p q s : ByteArray}
theorem strEq_eq {a b : ByteArray} : strEq a b = true ↔ a = b := by
  unfold strEq
  rw [beq_iff_eq, ByteArray.toList_eq, ByteArray.toList_eq]
  exact ⟨fun h => bs_inj h, fun h => by rw [h]⟩
theorem to_swap {x : Pl} (h : To p q x) : To q p (x.2.1, x.1, x.2.2) := by
  induction h with
  | here => exact .here
  | @step x y hy _ ih =>
    refine .step (y := (y.2.1, y.1, y.2.2)) (nextL_mem.2 ?_) ih
    rcases nextL_mem.1 hy with ⟨h1, h2, rfl⟩ | ⟨h1, h2, rfl⟩ | ⟨h1, h2, h3, rfl⟩
    · exact .inr (.inl ⟨h1, h2, rfl⟩)
    · exact .inl ⟨h1, h2, rfl⟩
    · refine .inr (.inr ⟨h2, h1, ?_, ?_⟩)
      · rcases h3 with h | h | h
        · exact .inr (.inl h)
        · exact .inl h
        · exact .inr (.inr h.symm)
      · have e : nxD q p (x.2.1, x.1, x.2.2) = nxD p q x := by
          unfold nxD
          by_cases hc : byteAt p x.1 = 46 ∨ byteAt q x.2.1 = 46
          · rw [if_pos hc, if_pos (show byteAt q x.2.1 = 46 ∨ byteAt p x.1 = 46 from hc.symm)]
          · rw [if_neg hc, if_neg (show ¬ (byteAt q x.2.1 = 46 ∨ byteAt p x.1 = 46) from fun h => hc h.symm)]
        rw [e]; rfl
theorem common_symm (p q : ByteArray) : commonB p q = commonB q p := by
  rw [Bool.eq_iff_iff, commonB_to, commonB_to]
  exact ⟨fun h => to_swap h, fun h => to_swap h⟩
end
inductive Ov : List ByteArray → List ByteArray → Prop
  | nil : Ov [] []
  | starL {p : ByteArray} {P Q : List ByteArray} : strEq p sStars = true → Ov P Q → Ov (p :: P) Q
  | starR {q : ByteArray} {P Q : List ByteArray} : strEq q sStars = true → Ov P Q → Ov P (q :: Q)
  | eatL {p q : ByteArray} {P Q : List ByteArray} : strEq p sStars = true → Ov (p :: P) Q → Ov (p :: P) (q :: Q)
  | eatR {p q : ByteArray} {P Q : List ByteArray} : strEq q sStars = true → Ov P (q :: Q) → Ov (p :: P) (q :: Q)
  | both {p q : ByteArray} {P Q : List ByteArray} : strEq p sStars = false → strEq q sStars = false → commonB p q = true → Ov P Q → Ov (p :: P) (q :: Q)
theorem Ov.symm {P Q : List ByteArray} (h : Ov P Q) : Ov Q P := by
  induction h with
  | nil => exact .nil
  | starL hp _ ih => exact .starR hp ih
  | starR hp _ ih => exact .starL hp ih
  | eatL hp _ ih => exact .eatR hp ih
  | eatR hp _ ih => exact .eatL hp ih
  | both hp hq hc _ ih => exact .both hq hp (by rw [common_symm]; exact hc) ih
theorem starW_here {f : List ByteArray → Bool} {N : List ByteArray} (h : f N = true) : starW f N = true := by
  cases N with
  | nil => exact h
  | cons n N => rw [starW, h]; rfl
inductive Wk : List ByteArray → List ByteArray → Prop
  | nil : Wk [] []
  | skip {p : ByteArray} {P N : List ByteArray} : strEq p sStars = true → Wk P N → Wk (p :: P) N
  | eat {p n : ByteArray} {P N : List ByteArray} : strEq p sStars = true → Wk (p :: P) N → Wk (p :: P) (n :: N)
  | name {p n : ByteArray} {P N : List ByteArray} : strEq p sStars = false → nameM p n = true → Wk P N → Wk (p :: P) (n :: N)
theorem starW_Wk {p : ByteArray} {P : List ByteArray} (hp : strEq p sStars = true) (ih : ∀ N, wk P N = true → Wk P N) : ∀ N, starW (wk P) N = true → Wk (p :: P) N
  | [], h => .skip hp (ih _ h)
  | n :: N, h => by
    rw [starW, Bool.or_eq_true] at h
    rcases h with h | h
    · exact .skip hp (ih _ h)
    · exact .eat hp (starW_Wk hp ih N h)
theorem wk_Wk : ∀ (P N : List ByteArray), wk P N = true → Wk P N
  | [], N, h => by
    rw [wk] at h
    obtain rfl : N = [] := by simpa using h
    exact .nil
  | p :: P, N, h => by
    rw [wk] at h
    split at h
    · rename_i hp; exact starW_Wk hp (wk_Wk P) N h
    · rename_i hp
      cases N with
      | nil => simp [nameW] at h
      | cons n N =>
        rw [nameW, Bool.and_eq_true] at h
        exact .name (by simpa using hp) h.1 (wk_Wk P N h.2)
theorem Wk_wk {P N : List ByteArray} (h : Wk P N) : wk P N = true := by
  induction h with
  | nil => rfl
  | skip hp _ ih => rw [wk, if_pos hp]; exact starW_here ih
  | eat hp _ ih => rw [wk, if_pos hp] at ih ⊢; rw [starW, ih]; simp
  | name hp hn _ ih => rw [wk, if_neg (by simp [hp]), nameW, hn, ih]; rfl
end Go.Cf
namespace Go.Cf
open Go.RowKit
theorem byte_of {s : ByteArray} {i : Nat} {b : UInt8} (h : s.data.toList[i]? = some b) : i < s.size ∧ byteAt s i = b.toNat := by
  obtain ⟨h1, h2⟩ := List.getElem?_eq_some_iff.1 h
  have h3 : i < s.size := by simpa using h1
  refine ⟨h3, ?_⟩
  unfold byteAt
  rw [h]; rfl
theorem cutS_pos (s : ByteArray) : 0 < (cutS s).length := by
  unfold cutS
  rw [List.length_map]
  exact List.length_pos_iff.2 (splitL_ne _)
end Go.Cf
namespace Go.Cf
open Go.RowKit
def dpStep (star : Bool) (g : Nat → Bool) (f : Nat → Bool) : Nat → Bool
  | 0 => star && f 0
  | k + 1 => if star then f (k + 1) || dpStep star g f k else f k && g k
def dp (star : Nat → Bool) (g : Nat → Nat → Bool) : Nat → Nat → Bool
  | 0 => fun k => decide (k = 0)
  | i + 1 => dpStep (star i) (g i) (dp star g i)
def dpRow (n : Nat) (f : Nat → Bool) : List Bool := (List.range (n + 1)).map f
def dpPart (n k : Nat) (f : Nat → Bool) : List Bool := (List.range (n + 1)).map (fun j => decide (j < k) && f j)
section
variable {n k j : Nat} {f : Nat → Bool} {star : Bool} {g : Nat → Bool}
theorem dpRow_len (n : Nat) (f : Nat → Bool) : (dpRow n f).length = n + 1 := by simp [dpRow]
theorem dpPart_len (n k : Nat) (f : Nat → Bool) : (dpPart n k f).length = n + 1 := by simp [dpPart]
theorem dpRow_get (h : k ≤ n) : (dpRow n f)[k]? = some (f k) := by
  simp [dpRow, show k < n + 1 by omega]
theorem dpPart_get (h : j < k) (hk : j ≤ n) : (dpPart n k f)[j]? = some (f j) := by
  simp [dpPart, show j < n + 1 by omega, h]
theorem dpPart_at (hk : j ≤ n) : (dpPart n j f)[j]? = some false := by
  simp [dpPart, show j < n + 1 by omega]
theorem dpPart_set (hk : k ≤ n) : (dpPart n k f).set k (f k) = dpPart n (k + 1) f := by
  refine List.ext_getElem? fun i => ?_
  rw [List.getElem?_set, dpPart_len]
  by_cases h : k = i
  · subst h
    rw [if_pos rfl, if_pos (by omega), dpPart_get (Nat.lt_succ_self _) hk]
  · rw [if_neg h]
    simp only [dpPart, List.getElem?_map]
    rcases Nat.lt_or_ge i (n + 1) with h1 | h1
    · rw [List.getElem?_range h1]
      simp only [Option.map_some, Option.some.injEq]
      rw [show decide (i < k + 1) = decide (i < k) from decide_eq_decide.2 (by omega)]
    · rw [List.getElem?_eq_none (by simpa using h1)]; rfl
theorem dpPart_put {v : Bool} (hk : k ≤ n) (hv : f k = v) : (dpPart n k f).set k v = dpPart n (k + 1) f := by
  rw [← hv]; exact dpPart_set hk
theorem dpPart_zero (n : Nat) (f : Nat → Bool) : dpPart n 0 f = List.replicate (n + 1) false := by
  refine List.ext_getElem? fun i => ?_
  simp only [dpPart, List.getElem?_map, List.getElem?_replicate]
  split
  · rename_i h; rw [List.getElem?_range h]; simp
  · rename_i h; rw [List.getElem?_eq_none (by simpa using h)]; rfl
theorem dpPart_full (n : Nat) (f : Nat → Bool) : dpPart n (n + 1) f = dpRow n f := by
  simp only [dpPart, dpRow]
  refine List.map_congr_left fun a ha => ?_
  rw [decide_eq_true (List.mem_range.1 ha), Bool.true_and]
theorem dp_first (n : Nat) (star : Nat → Bool) (g : Nat → Nat → Bool) : (List.replicate (n + 1) false).set 0 true = dpRow n (dp star g 0) := by
  rw [List.replicate_succ, List.set_cons_zero]
  refine List.ext_getElem? fun i => ?_
  simp only [dpRow, List.getElem?_map]
  cases i with
  | zero => simp [dp]
  | succ i =>
    simp only [List.getElem?_cons_succ, List.getElem?_replicate]
    split
    · rename_i h; rw [List.getElem?_range (by omega)]; simp [dp]
    · rename_i h; rw [List.getElem?_eq_none (by simpa using h)]; rfl
theorem dpStep_yes (h : f k = true) : dpStep true g f k = true := by cases k <;> simp [dpStep, h]
theorem dpStep_more (h : f k = false) (hk : 0 < k) : dpStep true g f k = dpStep true g f (k - 1) := by
  obtain ⟨m, rfl⟩ : ∃ m, k = m + 1 := ⟨k - 1, by omega⟩
  simp [dpStep, h]
theorem dpStep_no (h : f k = false) (hk : ¬ 0 < k) : dpStep true g f k = false := by
  obtain rfl : k = 0 := by omega
  simp [dpStep, h]
theorem dpStep_c0 (hk : ¬ 0 < k) : dpStep false g f k = false := by
  obtain rfl : k = 0 := by omega
  simp [dpStep]
theorem dpStep_ch (hk : 0 < k) : dpStep false g f k = (f (k - 1) && g (k - 1)) := by
  obtain ⟨m, rfl⟩ : ∃ m, k = m + 1 := ⟨k - 1, by omega⟩
  simp [dpStep]
end
section
variable {star : Nat → Bool} {g : Nat → Nat → Bool} {i k : Nat}
theorem dp_yes (hs : star i = true) (h : dp star g i k = true) : dp star g (i + 1) k = true := by
  show dpStep (star i) (g i) (dp star g i) k = true
  rw [hs]; exact dpStep_yes h
theorem dp_more (hs : star i = true) (h : dp star g i k = false) (hk : 0 < k) : dp star g (i + 1) k = dp star g (i + 1) (k - 1) := by
  show dpStep (star i) (g i) (dp star g i) k = dpStep (star i) (g i) (dp star g i) (k - 1)
  rw [hs]; exact dpStep_more h hk
theorem dp_no (hs : star i = true) (h : dp star g i k = false) (hk : ¬ 0 < k) : dp star g (i + 1) k = false := by
  show dpStep (star i) (g i) (dp star g i) k = false
  rw [hs]; exact dpStep_no h hk
theorem dp_c0 (hs : star i = false) (hk : ¬ 0 < k) : dp star g (i + 1) k = false := by
  show dpStep (star i) (g i) (dp star g i) k = false
  rw [hs]; exact dpStep_c0 hk
theorem dp_ct (hs : star i = false) (hk : 0 < k) (h : dp star g i (k - 1) = true) : dp star g (i + 1) k = g i (k - 1) := by
  show dpStep (star i) (g i) (dp star g i) k = _
  rw [hs, dpStep_ch hk, h, Bool.true_and]
theorem dp_cf (hs : star i = false) (hk : 0 < k) (h : dp star g i (k - 1) = false) : dp star g (i + 1) k = false := by
  show dpStep (star i) (g i) (dp star g i) k = _
  rw [hs, dpStep_ch hk, h, Bool.false_and]
end
inductive Dp (star : Nat → Bool) (g : Nat → Nat → Bool) : Nat → Nat → Prop
  | start : Dp star g 0 0
  | skip {i k : Nat} : Dp star g i k → star i = true → Dp star g (i + 1) k
  | eat {i k : Nat} : Dp star g (i + 1) k → star i = true → Dp star g (i + 1) (k + 1)
  | char {i k : Nat} : Dp star g i k → star i = false → g i k = true → Dp star g (i + 1) (k + 1)
section
variable {star : Nat → Bool} {g : Nat → Nat → Bool}
theorem dp_sound : ∀ (i k : Nat), dp star g i k = true → Dp star g i k
  | 0, k, h => by
    simp [dp] at h; subst h; exact .start
  | i + 1, 0, h => by
    simp [dp, dpStep] at h
    exact .skip (dp_sound i 0 h.2) h.1
  | i + 1, k + 1, h => by
    have h0 : dpStep (star i) (g i) (dp star g i) (k + 1) = true := h
    rw [dpStep] at h0
    cases hs : star i with
    | true =>
      rw [hs] at h0
      rw [if_pos rfl, Bool.or_eq_true] at h0
      rcases h0 with h1 | h1
      · exact .skip (dp_sound i (k + 1) h1) hs
      · exact .eat (dp_sound (i + 1) k (by show dpStep (star i) _ _ k = true; rw [hs]; exact h1)) hs
    | false =>
      rw [hs, if_neg (by simp), Bool.and_eq_true] at h0
      exact .char (dp_sound i k h0.1) hs h0.2
theorem dp_complete {i k : Nat} (h : Dp star g i k) : dp star g i k = true := by
  induction h with
  | start => rfl
  | @skip i k _ hs ih =>
    show dpStep (star i) (g i) (dp star g i) k = true
    rw [hs]; exact dpStep_yes ih
  | @eat i k _ hs ih =>
    have ih' : dpStep (star i) (g i) (dp star g i) k = true := ih
    show dpStep (star i) (g i) (dp star g i) (k + 1) = true
    rw [hs] at ih' ⊢
    simp [dpStep, ih']
  | @char i k _ hs hg ih =>
    show dpStep (star i) (g i) (dp star g i) (k + 1) = true
    rw [hs]; simp [dpStep, ih, hg]
theorem dp_iff {i k : Nat} : dp star g i k = true ↔ Dp star g i k := ⟨dp_sound i k, dp_complete⟩
end
def starP (p : ByteArray) (i : Nat) : Bool := decide (byteAt p i = 42)
def charP (p s : ByteArray) (i k : Nat) : Bool := decide (byteAt p i = 63) || decide (byteAt p i = byteAt s k)
theorem byteAt_end (p : ByteArray) : byteAt p p.size = 0 := by
  unfold byteAt
  rw [List.getElem?_eq_none (by simp)]; rfl
theorem pm_dp {p s : ByteArray} {i k : Nat} (h : Pm p s i k) : Dp (starP p) (charP p s) i k ∨ (starP p i = true ∧ Dp (starP p) (charP p s) (i + 1) k) := by
  induction h with
  | start => exact .inl .start
  | @star i k _ hi hc ih =>
    rcases ih with h | ⟨_, h⟩
    · exact .inl (.skip h (by simp [starP, hc]))
    · exact .inl h
  | @eat i k _ hi hk hc ih =>
    have hs : starP p i = true := by simp [starP, hc]
    rcases ih with h | ⟨_, h⟩
    · exact .inr ⟨hs, .eat (.skip h hs) hs⟩
    · exact .inr ⟨hs, .eat h hs⟩
  | @char i k _ hi hk hc hd ih =>
    have hs : starP p i = false := by simp [starP, hc]
    rcases ih with h | ⟨h, _⟩
    · exact .inl (.char h hs (by simpa [charP] using hd))
    · rw [hs] at h; cases h
theorem dp_pm {p s : ByteArray} {i k : Nat} (h : Dp (starP p) (charP p s) i k) : i ≤ p.size → k ≤ s.size → Pm p s i k ∧ ∀ j, i = j + 1 → starP p j = true → Pm p s j k := by
  induction h with
  | start => exact fun _ _ => ⟨.start, fun j h => by omega⟩
  | @skip i k _ hs ih =>
    intro hi hk
    have h1 := (ih (by omega) hk).1
    refine ⟨.star h1 (by omega) (by simpa [starP] using hs), fun j hj _ => ?_⟩
    obtain rfl : i = j := by omega
    exact h1
  | @eat i k _ hs ih =>
    intro hi hk
    have hc : byteAt p i = 42 := by simpa [starP] using hs
    have h1 := (ih hi (by omega)).2 i rfl hs
    have h2 : Pm p s i (k + 1) := .eat h1 (by omega) (by omega) hc
    refine ⟨.star h2 (by omega) hc, fun j hj _ => ?_⟩
    obtain rfl : i = j := by omega
    exact h2
  | @char i k _ hs hg ih =>
    intro hi hk
    have hc : byteAt p i ≠ 42 := by simpa [starP] using hs
    refine ⟨.char (ih (by omega) (by omega)).1 (by omega) (by omega) hc (by simpa [charP] using hg), fun j hj hs' => ?_⟩
    obtain rfl : i = j := by omega
    rw [hs] at hs'; cases hs'
theorem dp_name (p s : ByteArray) : dp (starP p) (charP p s) p.size s.size = nameM p s := by
  rw [Bool.eq_iff_iff, dp_iff, nameM_pm]
  constructor
  · intro h; exact (dp_pm h (Nat.le_refl _) (Nat.le_refl _)).1
  · intro h
    rcases pm_dp h with h | ⟨h, _⟩
    · exact h
    · simp [starP, byteAt_end] at h
def starW2 (P : List ByteArray) (i : Nat) : Bool := strEq (P[i]?.getD ⟨#[]⟩) sStars
def charW (P N : List ByteArray) (i k : Nat) : Bool := nameM (P[i]?.getD ⟨#[]⟩) (N[k]?.getD ⟨#[]⟩)
section
variable {P N : List ByteArray}
theorem starW2_at {i : Nat} (h : i < P.length) : starW2 P i = strEq P[i] sStars := by rw [starW2, List.getElem?_eq_getElem h]; rfl
theorem charW_at {i k : Nat} (h : i < P.length) (h2 : k < N.length) : charW P N i k = nameM P[i] N[k] := by rw [charW, List.getElem?_eq_getElem h, List.getElem?_eq_getElem h2]; rfl
theorem starW2_lt {i : Nat} (h : starW2 P i = true) : i < P.length := by
  rcases Nat.lt_or_ge i P.length with h1 | h1
  · exact h1
  · rw [starW2, List.getElem?_eq_none h1] at h; exact absurd (strEq_eq.1 h) (fun e => by have h2 := congrArg ByteArray.size e; exact absurd h2 (by decide))
theorem dp_wk_from {i k : Nat} (h : Dp (starW2 P) (charW P N) i k) : i ≤ P.length → k ≤ N.length → (Wk (P.drop i) (N.drop k) → Wk P N) ∧ ∀ j, i = j + 1 → starW2 P j = true → Wk (P.drop j) (N.drop k) → Wk P N := by
  induction h with
  | start => exact fun _ _ => ⟨fun h => by simpa using h, fun j h => by omega⟩
  | @skip i k _ hs ih =>
    intro hi hk
    have h1 := (ih (by omega) hk).1
    refine ⟨fun h => h1 ?_, fun j hj _ h => ?_⟩
    · rw [List.drop_eq_getElem_cons (show i < P.length by omega)]
      exact .skip (by rw [← starW2_at]; exact hs) h
    · obtain rfl : i = j := by omega
      exact h1 h
  | @eat i k _ hs ih =>
    intro hi hk
    have hi' : i < P.length := by omega
    have hk' : k < N.length := by omega
    have h2 := (ih hi (by omega)).2 i rfl hs
    have hst : strEq P[i] sStars = true := by rw [← starW2_at]; exact hs
    have h3 : Wk (P.drop i) (N.drop (k + 1)) → Wk P N := fun h => h2 (by
      rw [List.drop_eq_getElem_cons hi'] at h ⊢
      rw [List.drop_eq_getElem_cons hk']
      exact .eat hst h)
    refine ⟨fun h => h3 ?_, fun j hj _ h => ?_⟩
    · rw [List.drop_eq_getElem_cons hi']; exact .skip hst h
    · obtain rfl : i = j := by omega
      exact h3 h
  | @char i k _ hs hg ih =>
    intro hi hk
    have hi' : i < P.length := by omega
    have hk' : k < N.length := by omega
    have h1 := (ih (by omega) (by omega)).1
    refine ⟨fun h => h1 ?_, fun j hj hs' h => ?_⟩
    · rw [List.drop_eq_getElem_cons hi', List.drop_eq_getElem_cons hk']
      exact .name (by rw [← starW2_at]; exact hs) (by rw [← charW_at]; exact hg) h
    · obtain rfl : i = j := by omega
      rw [hs] at hs'; cases hs'
theorem wk_dp_to {P' N' : List ByteArray} (h : Wk P' N') : ∀ i k, i ≤ P.length → k ≤ N.length → P' = P.drop i → N' = N.drop k → (Dp (starW2 P) (charW P N) i k ∨ (starW2 P i = true ∧ Dp (starW2 P) (charW P N) (i + 1) k)) → Dp (starW2 P) (charW P N) P.length N.length := by
  induction h with
  | nil =>
    intro i k hi hk h1 h2 h3
    have e1 := congrArg List.length h1
    have e2 := congrArg List.length h2
    simp at e1 e2
    obtain rfl : i = P.length := by omega
    obtain rfl : k = N.length := by omega
    rcases h3 with h3 | ⟨h3, _⟩
    · exact h3
    · exact absurd (starW2_lt h3) (Nat.lt_irrefl _)
  | @skip p P1 N1 hp _ ih =>
    intro i k hi hk h1 h2 h3
    have hl : i < P.length := by
      have e1 := congrArg List.length h1
      simp at e1; omega
    rw [List.drop_eq_getElem_cons hl] at h1
    injection h1 with e1 e2
    have hs : starW2 P i = true := by rw [starW2_at hl, ← e1]; exact hp
    refine ih (i + 1) k (by omega) hk e2 h2 (.inl ?_)
    rcases h3 with h3 | ⟨_, h3⟩
    · exact .skip h3 hs
    · exact h3
  | @eat p n P1 N1 hp _ ih =>
    intro i k hi hk h1 h2 h3
    have hl : i < P.length := by
      have e1 := congrArg List.length h1
      simp at e1; omega
    have hl2 : k < N.length := by
      have e1 := congrArg List.length h2
      simp at e1; omega
    have h1' := h1
    rw [List.drop_eq_getElem_cons hl] at h1'
    rw [List.drop_eq_getElem_cons hl2] at h2
    injection h1' with e1 e2
    injection h2 with e3 e4
    have hs : starW2 P i = true := by rw [starW2_at hl, ← e1]; exact hp
    refine ih i (k + 1) hi (by omega) h1 e4 (.inr ⟨hs, ?_⟩)
    rcases h3 with h3 | ⟨_, h3⟩
    · exact .eat (.skip h3 hs) hs
    · exact .eat h3 hs
  | @name p n P1 N1 hp hn _ ih =>
    intro i k hi hk h1 h2 h3
    have hl : i < P.length := by
      have e1 := congrArg List.length h1
      simp at e1; omega
    have hl2 : k < N.length := by
      have e1 := congrArg List.length h2
      simp at e1; omega
    rw [List.drop_eq_getElem_cons hl] at h1
    rw [List.drop_eq_getElem_cons hl2] at h2
    injection h1 with e1 e2
    injection h2 with e3 e4
    have hs : starW2 P i = false := by rw [starW2_at hl, ← e1]; exact hp
    refine ih (i + 1) (k + 1) (by omega) (by omega) e2 e4 (.inl ?_)
    rcases h3 with h3 | ⟨h3, _⟩
    · exact .char h3 hs (by rw [charW_at hl hl2, ← e1, ← e3]; exact hn)
    · rw [hs] at h3; cases h3
theorem dp_wk (P N : List ByteArray) : dp (starW2 P) (charW P N) P.length N.length = wk P N := by
  rw [Bool.eq_iff_iff, dp_iff]
  constructor
  · intro h
    exact Wk_wk ((dp_wk_from h (Nat.le_refl _) (Nat.le_refl _)).1 (by rw [List.drop_length, List.drop_length]; exact .nil))
  · intro h
    exact wk_dp_to (wk_Wk _ _ h) 0 0 (Nat.zero_le _) (Nat.zero_le _) (by simp) (by simp) (.inl .start)
end
end Go.Cf
namespace Go.Proofs.YtbkameioedmlkaaGreatDoor
open Go.RowKit Go.Cf
set_option maxRecDepth 10000
set_option maxHeartbeats 2000000 in
theorem patternCode_any (w : World) (s : ByteArray) : Calls Tryz.prog 86 #[.string s] w fun e w' => e = .returned (.int .i64 (patCode s : Nat)) ∧ Below w.heap.size w w' := by
  have hcl := cutS_len s
  refine gcalls Tryz.func86 rfl Tryz.ntmps86 (Nat.le_of_ble_eq_true rfl) ?_
  refine gfrom [(0, .string _)] ⟨rfl, trivial⟩ fun σ => ?_
  refine gseq fun N1 hN1 => ?_
  refine greg ?_
  refine gop (y_assign (v := .int _ _) rfl) rfl rfl rfl ?_
  refine gops_nil ?_
  refine hN1 _ _ ?_
  refine gfrom [(0, .string _)] ⟨rfl, trivial⟩ fun σ => ?_
  refine gseq fun N2 hN2 => ?_
  refine gseq fun N3 hN3 => ?_
  refine greg ?_
  refine gop (y_move (v := .string _) rfl) rfl rfl rfl ?_
  refine gop (y_lens Tryz.underlying9 rfl) rfl rfl rfl ?_
  refine gop (y_gtr rfl rfl) rfl rfl rfl ?_
  refine gops_nil ?_
  refine hN3 _ _ ?_
  refine gfrom [(0, .string _), (9, .bool _)] ⟨rfl, rfl, trivial⟩ fun σ => ?_
  refine gcond (b := _) rfl (fun hc9 => ?_) (fun hc9 => ?_)
  · 
    replace hc9 := of_decide_eq_true hc9
    refine gseq fun N4 hN4 => ?_
    refine greg ?_
    refine gop (y_assign (v := .int _ _) rfl) rfl rfl rfl ?_
    refine gops_nil ?_
    refine hN4 _ _ ?_
    refine gfrom [(2, .int _ _)] ⟨rfl, trivial⟩ fun σ => ?_
    refine gret fun w1 hM => ?_
    refine ⟨_, res1 rfl (rt (v := .int _ _) rfl), ?_⟩
    exact ⟨by rw [patCode, if_pos (by omega)]; rfl, hM.low⟩
  · 
    replace hc9 := of_decide_eq_false hc9
    refine gskip ?_
    refine hN2 _ _ ?_
    refine gfrom [(0, .string _)] ⟨rfl, trivial⟩ fun σ => ?_
    refine gseq fun N5 hN5 => ?_
    refine greg ?_
    refine gop (y_move (v := .string _) rfl) rfl rfl rfl ?_
    refine gop_got (fun v T' => ∃ lo, w.heap.size ≤ lo ∧ T' = [rowl strCells lo 9 1 v (cutS s)]) (e_call (vs := [.string _]) Tryz.func79 rfl (by kernel_rfl) rfl) (fun w hM => (cut_any w s (by omega)).mono fun _ _ ⟨v, T1, h1, h2, h3⟩ => ⟨v, T1, h1, ⟨_, hM.low.size, h2⟩, h3⟩) rfl rfl rfl ?_
    rintro v11 _ ⟨lo11, hlo11, rfl⟩
    refine gops_fact (fun w hM => row_form (hM.ok _ (List.mem_of_getElem? (i := 0) rfl))) ?_
    rintro ⟨A11, c11, rfl, hc11, hm11, hn11⟩
    refine gop (y_assign (v := .slice A11 _ c11) rfl) rfl rfl rfl ?_
    refine gops_nil ?_
    refine hN5 _ _ ?_
    refine gT [rowl _ _ _ _ _ _] rfl ?_
    refine gfrom [(3, .slice A11 _ c11)] ⟨rfl, trivial⟩ fun σ => ?_
    refine gseq fun N6 hN6 => ?_
    refine gseq fun N7 hN7 => ?_
    refine greg ?_
    refine gop (y_assign (v := .int _ _) rfl) rfl rfl rfl ?_
    refine gops_nil ?_
    refine hN7 _ _ ?_
    refine gfrom [(3, .slice A11 _ c11), (4, .int _ _)] ⟨rfl, rfl, trivial⟩ fun σ => ?_
    refine gblock ?_
    refine gfrom2 [(4, .int _ _)] [(3, .slice A11 _ c11)] ⟨rfl, trivial⟩ ⟨rfl, trivial⟩ fun σ => ?_
    refine gloop2 (G := Nat) (fun k => k ≤ (cutS s).length ∧ ∀ j (h : j < (cutS s).length), j < k → partCode (cutS s)[j] = 0) (fun k => (cutS s).length - k) (fun k => [(4, .int .i64 (k : Int))]) (fun k => []) (0) ?h0 ⟨rfl, trivial⟩ ⟨rfl, trivial⟩ rfl ?round
    case h0 => exact ⟨Nat.zero_le _, fun _ _ h => absurd h (by omega)⟩
    case round =>
      intro k hφ σ
      obtain ⟨hk, hz⟩ := hφ
      refine gseq fun N8 hN8 => ?_
      refine gseq fun N9 hN9 => ?_
      refine greg ?_
      refine gop (y_move (v := .int _ _) rfl) rfl rfl rfl ?_
      refine gop (y_move (v := .slice A11 _ c11) rfl) rfl rfl rfl ?_
      refine gop (y_len Tryz.underlying22 rfl) rfl rfl rfl ?_
      refine gop (y_lss rfl rfl) rfl rfl rfl ?_
      refine gops_nil ?_
      refine hN9 _ _ ?_
      refine gfrom [(3, .slice A11 _ c11), (4, .int _ _), (15, .bool _)] ⟨rfl, rfl, rfl, trivial⟩ fun σ => ?_
      refine gcond (b := _) rfl (fun hc15 => ?_) (fun hc15 => ?_)
      · 
        replace hc15 := of_decide_eq_true hc15
        have hk1 : k < (cutS s).length := by omega
        have hx60 : (cutS s)[k].size ≤ 60 := cutS_size (List.getElem_mem hk1) (by omega)
        refine g_fact (fun w hM => own_some (hM.own 0 rfl) (by omega)) ?_
        rintro ⟨rg0, cg0, hvg, -, -⟩
        simp only [Value.slice.injEq] at hvg
        obtain ⟨rfl, -, rfl⟩ := hvg
        refine gskip ?_
        refine hN8 _ _ ?_
        refine gfrom [(3, .slice (some ⟨rg0, 0, none⟩) _ _), (4, .int _ _)] ⟨rfl, rfl, trivial⟩ fun σ => ?_
        refine gseq fun N10 hN10 => ?_
        refine gblock ?_
        refine gseq fun N11 hN11 => ?_
        refine greg ?_
        refine gop (y_move (v := .slice (some ⟨rg0, 0, none⟩) _ _) rfl) rfl rfl rfl ?_
        refine gop (y_move (v := .int _ _) rfl) rfl rfl rfl ?_
        refine gop (y_indexAddr Tryz.underlying22 Tryz.sizeOf9 rfl rfl rfl (by omega) (by omega)) rfl rfl rfl ?_
        refine gop (y_load Tryz.isAgg9 rfl (cells_rowl 0 (f := strCells) (l := cutS s) rfl rfl (fun _ => rfl) (List.getElem?_eq_getElem hk1) 0 _ rfl)) rfl rfl rfl ?_
        refine gop (y_assign (v := .string _) rfl) rfl rfl rfl ?_
        refine gops_nil ?_
        refine hN11 _ _ ?_
        refine gfrom [(3, .slice (some ⟨rg0, 0, none⟩) _ _), (4, .int _ _), (5, .string _)] ⟨rfl, rfl, rfl, trivial⟩ fun σ => ?_
        refine gseq fun N12 hN12 => ?_
        refine gfrom [(3, .slice (some ⟨rg0, 0, none⟩) _ _), (4, .int _ _), (5, .string _)] ⟨rfl, rfl, rfl, trivial⟩ fun σ => ?_
        refine gcut3 (Lf := [(3, .slice (some ⟨rg0, 0, none⟩) _ _), (4, .int _ _), (5, .string _)]) (G := Unit) (fun g => dotty (cutS s)[k] = false) (fun g => []) (fun g => []) ⟨rfl, rfl, rfl, trivial⟩ ?_ ?_
        ·
          refine gseq fun N13 hN13 => ?_
          refine greg ?_
          refine gop (y_move (v := .string _) rfl) rfl rfl rfl ?_
          refine gop (y_eqls rfl rfl) rfl rfl rfl ?_
          refine gop (y_move (v := .bool _) rfl) rfl rfl rfl ?_
          refine gop_if (want := false) rfl rfl rfl rfl rfl rfl (fun hg24 => ?_) (fun hg24 => ?_)
          · 
            have hg24d := hg24
            refine gop (y_bare (y_move (v := .string _) rfl)) rfl rfl rfl ?_
            refine gop_on rfl rfl rfl rfl hg24 ?_
            refine gop (y_bare (y_eqls rfl rfl)) rfl rfl rfl ?_
            refine gop (y_pick_f (v := .bool _) rfl hg24 rfl) rfl rfl rfl ?_
            refine gop (y_move (v := .bool _) rfl) rfl rfl rfl ?_
            refine gop_if (want := false) rfl rfl rfl rfl rfl rfl (fun hg28 => ?_) (fun hg28 => ?_)
            · 
              have hg28d := hg28
              refine gop (y_bare (y_move (v := .string _) rfl)) rfl rfl rfl ?_
              refine gop_on rfl rfl rfl rfl hg28 ?_
              refine gop (y_bare (y_eqls rfl rfl)) rfl rfl rfl ?_
              refine gop (y_pick_f (v := .bool _) rfl hg28 rfl) rfl rfl rfl ?_
              refine gops_nil ?_
              refine hN13 _ _ ?_
              refine gfrom [(3, .slice (some ⟨rg0, 0, none⟩) _ _), (4, .int _ _), (5, .string _), (31, .bool _)] ⟨rfl, rfl, rfl, rfl, trivial⟩ fun σ => ?_
              refine gcond (b := _) rfl (fun hc31 => ?_) (fun hc31 => ?_)
              · 
                refine gseq fun N14 hN14 => ?_
                refine greg ?_
                refine gop (y_assign (v := .int _ _) rfl) rfl rfl rfl ?_
                refine gops_nil ?_
                refine hN14 _ _ ?_
                refine gfrom [(2, .int _ _)] ⟨rfl, trivial⟩ fun σ => ?_
                refine gret fun w1 hM => ?_
                refine ⟨_, res1 rfl (rt (v := .int _ _) rfl), ?_⟩
                have hpc : partCode (cutS s)[k] = 12 := by rw [partCode, if_pos (by simp_all [dotty, strEq])]
                exact ⟨by rw [patCode, if_neg (by omega), partsCode_hit (List.getElem?_eq_getElem hk1) hz (by omega), hpc]; rfl, hM.low⟩
              · 
                refine gskip ?_
                refine gcut3_end (()) (by simp_all [dotty, strEq]) trivial ⟨rfl, rfl, rfl, trivial⟩ ⟨_, rfl⟩
            · 
              have hg28d := hg28
              refine gop_off rfl rfl rfl rfl hg28 rfl rfl ?_
              refine gop (y_pick_t (v := .bool _) rfl hg28 rfl) rfl rfl rfl ?_
              refine gops_nil ?_
              refine hN13 _ _ ?_
              refine gfrom [(3, .slice (some ⟨rg0, 0, none⟩) _ _), (4, .int _ _), (5, .string _), (31, .bool _)] ⟨rfl, rfl, rfl, rfl, trivial⟩ fun σ => ?_
              refine gcond (b := _) rfl (fun hc31 => ?_) (fun hc31 => ?_)
              · 
                refine gseq fun N15 hN15 => ?_
                refine greg ?_
                refine gop (y_assign (v := .int _ _) rfl) rfl rfl rfl ?_
                refine gops_nil ?_
                refine hN15 _ _ ?_
                refine gfrom [(2, .int _ _)] ⟨rfl, trivial⟩ fun σ => ?_
                refine gret fun w1 hM => ?_
                refine ⟨_, res1 rfl (rt (v := .int _ _) rfl), ?_⟩
                have hpc : partCode (cutS s)[k] = 12 := by rw [partCode, if_pos (by simp_all [dotty, strEq])]
                exact ⟨by rw [patCode, if_neg (by omega), partsCode_hit (List.getElem?_eq_getElem hk1) hz (by omega), hpc]; rfl, hM.low⟩
              · 
                cases hc31
          · 
            have hg24d := hg24
            refine gop_off rfl rfl rfl rfl hg24 rfl rfl ?_
            refine gop (y_pick_t (v := .bool _) rfl hg24 rfl) rfl rfl rfl ?_
            refine gop (y_move (v := .bool _) rfl) rfl rfl rfl ?_
            refine gop_off rfl rfl rfl rfl rfl rfl rfl ?_
            refine gop_off rfl rfl rfl rfl rfl rfl rfl ?_
            refine gop (y_pick_t (v := .bool _) rfl rfl rfl) rfl rfl rfl ?_
            refine gops_nil ?_
            refine hN13 _ _ ?_
            refine gfrom [(3, .slice (some ⟨rg0, 0, none⟩) _ _), (4, .int _ _), (5, .string _), (31, .bool _)] ⟨rfl, rfl, rfl, rfl, trivial⟩ fun σ => ?_
            refine gcond (b := _) rfl (fun hc31 => ?_) (fun hc31 => ?_)
            · 
              refine gseq fun N16 hN16 => ?_
              refine greg ?_
              refine gop (y_assign (v := .int _ _) rfl) rfl rfl rfl ?_
              refine gops_nil ?_
              refine hN16 _ _ ?_
              refine gfrom [(2, .int _ _)] ⟨rfl, trivial⟩ fun σ => ?_
              refine gret fun w1 hM => ?_
              refine ⟨_, res1 rfl (rt (v := .int _ _) rfl), ?_⟩
              have hpc : partCode (cutS s)[k] = 12 := by rw [partCode, if_pos (by simp_all [dotty, strEq])]
              exact ⟨by rw [patCode, if_neg (by omega), partsCode_hit (List.getElem?_eq_getElem hk1) hz (by omega), hpc]; rfl, hM.low⟩
            · 
              cases hc31
        ·
          intro g hcut σ
          refine hN12 _ _ ?_
          have hdot := hcut
          refine gseq fun N17 hN17 => ?_
          refine gseq fun N18 hN18 => ?_
          refine greg ?_
          refine gop (y_move (v := .string _) rfl) rfl rfl rfl ?_
          refine gop (y_eqls rfl rfl) rfl rfl rfl ?_
          refine gops_nil ?_
          refine hN18 _ _ ?_
          refine gT [rowl _ _ _ _ _ _] rfl ?_
          refine gfrom [(3, .slice (some ⟨rg0, 0, none⟩) _ _), (4, .int _ _), (5, .string _), (33, .bool _)] ⟨rfl, rfl, rfl, rfl, trivial⟩ fun σ => ?_
          refine gcond (b := _) rfl (fun hc33 => ?_) (fun hc33 => ?_)
          · 
            have hss : strEq (cutS s)[k] sStars = true := hc33
            have hpz : partCode (cutS s)[k] = 0 := by rw [partCode, hdot, hss]; rfl
            refine gexit ?_
            refine hN10 _ _ ?_
            refine gfrom [(3, .slice (some ⟨rg0, 0, none⟩) _ _), (4, .int _ _)] ⟨rfl, rfl, trivial⟩ fun σ => ?_
            refine greg ?_
            refine gop (y_move (v := .int _ _) rfl) rfl rfl rfl ?_
            refine gop (y_add rfl rfl ⟨by omega, by omega⟩) rfl rfl rfl ?_
            refine gop (y_assign (v := .int _ _) rfl) rfl rfl rfl ?_
            refine gops_nil ?_
            refine gnext2 (k + 1) (by omega) (⟨by omega, fun j h hj => by rcases Nat.lt_succ_iff_lt_or_eq.1 hj with h1 | rfl; exact hz j h h1; exact hpz⟩) ⟨rfl, trivial⟩ ⟨rfl, trivial⟩ ⟨_, rfl⟩
          · 
            have hss : strEq (cutS s)[k] sStars = false := hc33
            refine gskip ?_
            refine hN17 _ _ ?_
            refine gfrom [(3, .slice (some ⟨rg0, 0, none⟩) _ _), (4, .int _ _), (5, .string _)] ⟨rfl, rfl, rfl, trivial⟩ fun σ => ?_
            refine gseq fun N19 hN19 => ?_
            refine greg ?_
            refine gop (y_assign (v := .int _ _) rfl) rfl rfl rfl ?_
            refine gops_nil ?_
            refine hN19 _ _ ?_
            refine gfrom [(3, .slice (some ⟨rg0, 0, none⟩) _ _), (4, .int _ _), (5, .string _), (6, .int _ _)] ⟨rfl, rfl, rfl, rfl, trivial⟩ fun σ => ?_
            refine gblock ?_
            refine gfrom2 [(6, .int _ _)] [(3, .slice (some ⟨rg0, 0, none⟩) _ _), (4, .int _ _), (5, .string _)] ⟨rfl, trivial⟩ ⟨rfl, rfl, rfl, trivial⟩ fun σ => ?_
            refine gloop2 (G := Nat) (fun i => i ≤ (cutS s)[k].size ∧ scanP (cutS s)[k] ((cutS s)[k].size - i) = scanP (cutS s)[k] (cutS s)[k].size) (fun i => (cutS s)[k].size - i) (fun i => [(6, .int .i64 (i : Int))]) (fun i => []) (0) ?h0 ⟨rfl, trivial⟩ ⟨rfl, rfl, rfl, trivial⟩ rfl ?round
            case h0 => exact ⟨Nat.zero_le _, rfl⟩
            case round =>
              intro i hφ σ
              obtain ⟨hi, hi2⟩ := hφ
              refine gseq fun N20 hN20 => ?_
              refine gseq fun N21 hN21 => ?_
              refine greg ?_
              refine gop (y_move (v := .int _ _) rfl) rfl rfl rfl ?_
              refine gop (y_move (v := .string _) rfl) rfl rfl rfl ?_
              refine gop (y_lens Tryz.underlying9 rfl) rfl rfl rfl ?_
              refine gop (y_lss rfl rfl) rfl rfl rfl ?_
              refine gops_nil ?_
              refine hN21 _ _ ?_
              refine gfrom [(3, .slice (some ⟨rg0, 0, none⟩) _ _), (4, .int _ _), (5, .string _), (6, .int _ _), (37, .bool _)] ⟨rfl, rfl, rfl, rfl, rfl, trivial⟩ fun σ => ?_
              refine gcond (b := _) rfl (fun hc37 => ?_) (fun hc37 => ?_)
              · 
                replace hc37 := of_decide_eq_true hc37
                refine gskip ?_
                refine hN20 _ _ ?_
                refine gfrom [(3, .slice (some ⟨rg0, 0, none⟩) _ _), (4, .int _ _), (5, .string _), (6, .int _ _)] ⟨rfl, rfl, rfl, rfl, trivial⟩ fun σ => ?_
                refine gseq fun N22 hN22 => ?_
                refine gfrom [(3, .slice (some ⟨rg0, 0, none⟩) _ _), (4, .int _ _), (5, .string _), (6, .int _ _)] ⟨rfl, rfl, rfl, rfl, trivial⟩ fun σ => ?_
                refine gcut3 (Lf := [(3, .slice (some ⟨rg0, 0, none⟩) _ _), (4, .int _ _), (5, .string _), (6, .int _ _)]) (G := Unit) (fun g => wildBad (cutS s)[k] i = false ∧ charBad (cutS s)[k] i = false) (fun g => []) (fun g => []) ⟨rfl, rfl, rfl, rfl, trivial⟩ ?_ ?_
                ·
                  refine gblock ?_
                  refine gseq fun N23 hN23 => ?_
                  refine gfrom [(3, .slice (some ⟨rg0, 0, none⟩) _ _), (4, .int _ _), (5, .string _), (6, .int _ _)] ⟨rfl, rfl, rfl, rfl, trivial⟩ fun σ => ?_
                  refine gcut3 (Lf := [(3, .slice (some ⟨rg0, 0, none⟩) _ _), (4, .int _ _), (5, .string _), (6, .int _ _)]) (G := Unit) (fun g => wildBad (cutS s)[k] i = false) (fun g => []) (fun g => []) ⟨rfl, rfl, rfl, rfl, trivial⟩ ?_ ?_
                  ·
                    refine gseq fun N24 hN24 => ?_
                    refine greg ?_
                    refine gop (y_move (v := .string _) rfl) rfl rfl rfl ?_
                    refine gop (y_move (v := .int _ _) rfl) rfl rfl rfl ?_
                    refine gop (y_stridx (m := i) Tryz.underlying9 rfl rfl (by omega) (by omega) (by omega)) rfl rfl rfl ?_
                    refine gop (y_eql rfl rfl) rfl rfl rfl ?_
                    refine gop (y_move (v := .bool _) rfl) rfl rfl rfl ?_
                    refine gop_if (want := true) rfl rfl rfl rfl rfl rfl (fun hg44 => ?_) (fun hg44 => ?_)
                    · 
                      have hg44d := of_decide_eq_true hg44
                      refine gop (y_bare (y_move (v := .int _ _) rfl)) rfl rfl rfl ?_
                      refine gop_on rfl rfl rfl rfl hg44 ?_
                      refine gop (y_bare (y_gtr rfl rfl)) rfl rfl rfl ?_
                      refine gop (y_pick_t (v := .bool _) rfl hg44 rfl) rfl rfl rfl ?_
                      refine gop (y_move (v := .bool _) rfl) rfl rfl rfl ?_
                      refine gop_if (want := true) rfl rfl rfl rfl rfl rfl (fun hg48 => ?_) (fun hg48 => ?_)
                      · 
                        have hg48d := of_decide_eq_true hg48
                        refine gop (y_bare (y_move (v := .string _) rfl)) rfl rfl rfl ?_
                        refine gop_on rfl rfl rfl rfl hg48 ?_
                        refine gop (y_bare (y_move (v := .int _ _) rfl)) rfl rfl rfl ?_
                        refine gop_on rfl rfl rfl rfl hg48 ?_
                        refine gop (y_bare (y_sub rfl rfl ⟨by omega, by omega⟩)) rfl rfl rfl ?_
                        refine gop_on rfl rfl rfl rfl hg48 ?_
                        refine gop (y_bare (y_stridx (m := i - 1) Tryz.underlying9 rfl rfl (by omega) (by omega) (by omega))) rfl rfl rfl ?_
                        refine gop_on rfl rfl rfl rfl hg48 ?_
                        refine gop (y_bare (y_eql rfl rfl)) rfl rfl rfl ?_
                        refine gop (y_pick_t (v := .bool _) rfl hg48 rfl) rfl rfl rfl ?_
                        refine gops_nil ?_
                        refine hN24 _ _ ?_
                        refine gfrom [(3, .slice (some ⟨rg0, 0, none⟩) _ _), (4, .int _ _), (5, .string _), (6, .int _ _), (54, .bool _)] ⟨rfl, rfl, rfl, rfl, rfl, trivial⟩ fun σ => ?_
                        refine gcond (b := _) rfl (fun hc54 => ?_) (fun hc54 => ?_)
                        · 
                          replace hc54 := of_decide_eq_true hc54
                          refine gseq fun N25 hN25 => ?_
                          refine greg ?_
                          refine gop (y_assign (v := .int _ _) rfl) rfl rfl rfl ?_
                          refine gops_nil ?_
                          refine hN25 _ _ ?_
                          refine gfrom [(2, .int _ _)] ⟨rfl, trivial⟩ fun σ => ?_
                          refine gret fun w1 hM => ?_
                          refine ⟨_, res1 rfl (rt (v := .int _ _) rfl), ?_⟩
                          have hpc : partCode (cutS s)[k] = 1 := by rw [partCode, hdot, hss, if_neg (by simp), if_neg (by simp), ← hi2]; exact scanP_wild (by omega) (by simp [wildBad]; omega)
                          exact ⟨by rw [patCode, if_neg (by omega), partsCode_hit (List.getElem?_eq_getElem hk1) hz (by omega), hpc]; rfl, hM.low⟩
                        · 
                          replace hc54 := of_decide_eq_false hc54
                          refine gskip ?_
                          refine gcut3_end (()) (by simp [wildBad]; omega) trivial ⟨rfl, rfl, rfl, rfl, trivial⟩ ⟨_, rfl⟩
                      · 
                        have hg48d := of_decide_eq_false hg48
                        refine gop_off rfl rfl rfl rfl hg48 rfl rfl ?_
                        refine gop_off rfl rfl rfl rfl hg48 rfl rfl ?_
                        refine gop_off rfl rfl rfl rfl hg48 rfl rfl ?_
                        refine gop_off rfl rfl rfl rfl hg48 rfl rfl ?_
                        refine gop (y_pick_f (v := .bool _) rfl hg48 rfl) rfl rfl rfl ?_
                        refine gops_nil ?_
                        refine hN24 _ _ ?_
                        refine gfrom [(3, .slice (some ⟨rg0, 0, none⟩) _ _), (4, .int _ _), (5, .string _), (6, .int _ _), (54, .bool _)] ⟨rfl, rfl, rfl, rfl, rfl, trivial⟩ fun σ => ?_
                        refine gcond (b := _) rfl (fun hc54 => ?_) (fun hc54 => ?_)
                        · 
                          cases hc54
                        · 
                          refine gskip ?_
                          refine gcut3_end (()) (by simp [wildBad]; omega) trivial ⟨rfl, rfl, rfl, rfl, trivial⟩ ⟨_, rfl⟩
                    · 
                      have hg44d := of_decide_eq_false hg44
                      refine gop_off rfl rfl rfl rfl hg44 rfl rfl ?_
                      refine gop (y_pick_f (v := .bool _) rfl hg44 rfl) rfl rfl rfl ?_
                      refine gop (y_move (v := .bool _) rfl) rfl rfl rfl ?_
                      refine gop_off rfl rfl rfl rfl rfl rfl rfl ?_
                      refine gop_off rfl rfl rfl rfl rfl rfl rfl ?_
                      refine gop_off rfl rfl rfl rfl rfl rfl rfl ?_
                      refine gop_off rfl rfl rfl rfl rfl rfl rfl ?_
                      refine gop_off rfl rfl rfl rfl rfl rfl rfl ?_
                      refine gop (y_pick_f (v := .bool _) rfl rfl rfl) rfl rfl rfl ?_
                      refine gops_nil ?_
                      refine hN24 _ _ ?_
                      refine gfrom [(3, .slice (some ⟨rg0, 0, none⟩) _ _), (4, .int _ _), (5, .string _), (6, .int _ _), (54, .bool _)] ⟨rfl, rfl, rfl, rfl, rfl, trivial⟩ fun σ => ?_
                      refine gcond (b := _) rfl (fun hc54 => ?_) (fun hc54 => ?_)
                      · 
                        cases hc54
                      · 
                        refine gskip ?_
                        refine gcut3_end (()) (by simp [wildBad]; omega) trivial ⟨rfl, rfl, rfl, rfl, trivial⟩ ⟨_, rfl⟩
                  ·
                    intro g hcut σ
                    refine hN23 _ _ ?_
                    have hwb := hcut
                    refine gseq fun N26 hN26 => ?_
                    refine greg ?_
                    refine gop (y_move (v := .string _) rfl) rfl rfl rfl ?_
                    refine gop (y_move (v := .int _ _) rfl) rfl rfl rfl ?_
                    refine gop (y_stridx (m := i) Tryz.underlying9 rfl rfl (by omega) (by omega) (by omega)) rfl rfl rfl ?_
                    refine gop (y_neq rfl rfl) rfl rfl rfl ?_
                    refine gop (y_move (v := .bool _) rfl) rfl rfl rfl ?_
                    refine gop_if (want := true) rfl rfl rfl rfl rfl rfl (fun hg59 => ?_) (fun hg59 => ?_)
                    · 
                      have hg59d := of_decide_eq_true hg59
                      refine gop (y_bare (y_move (v := .string _) rfl)) rfl rfl rfl ?_
                      refine gop_on rfl rfl rfl rfl hg59 ?_
                      refine gop (y_bare (y_move (v := .int _ _) rfl)) rfl rfl rfl ?_
                      refine gop_on rfl rfl rfl rfl hg59 ?_
                      refine gop (y_bare (y_stridx (m := i) Tryz.underlying9 rfl rfl (by omega) (by omega) (by omega))) rfl rfl rfl ?_
                      refine gop_on rfl rfl rfl rfl hg59 ?_
                      refine gop (y_bare (y_neq rfl rfl)) rfl rfl rfl ?_
                      refine gop (y_pick_t (v := .bool _) rfl hg59 rfl) rfl rfl rfl ?_
                      refine gop (y_move (v := .bool _) rfl) rfl rfl rfl ?_
                      refine gop_if (want := true) rfl rfl rfl rfl rfl rfl (fun hg65 => ?_) (fun hg65 => ?_)
                      · 
                        have hg65d := of_decide_eq_true hg65
                        refine gop (y_bare (y_move (v := .string _) rfl)) rfl rfl rfl ?_
                        refine gop_on rfl rfl rfl rfl hg65 ?_
                        refine gop (y_bare (y_move (v := .int _ _) rfl)) rfl rfl rfl ?_
                        refine gop_on rfl rfl rfl rfl hg65 ?_
                        refine gop (y_bare (y_stridx (m := i) Tryz.underlying9 rfl rfl (by omega) (by omega) (by omega))) rfl rfl rfl ?_
                        refine gop_on rfl rfl rfl rfl hg65 ?_
                        refine gop_pure (e_call (vs := [.int _ _]) Tryz.func109 rfl (by kernel_rfl) rfl) (fun w hM => isByte_any w _) rfl rfl rfl ?_
                        refine gop_on rfl rfl rfl rfl hg65 ?_
                        refine gop (y_bare (y_not rfl)) rfl rfl rfl ?_
                        refine gop (y_pick_t (v := .bool _) rfl hg65 rfl) rfl rfl rfl ?_
                        refine gops_nil ?_
                        refine hN26 _ _ ?_
                        refine gT [rowl _ _ _ _ _ _] rfl ?_
                        refine gfrom [(3, .slice (some ⟨rg0, 0, none⟩) _ _), (4, .int _ _), (5, .string _), (6, .int _ _), (71, .bool _)] ⟨rfl, rfl, rfl, rfl, rfl, trivial⟩ fun σ => ?_
                        refine gcond (b := _) rfl (fun hc71 => ?_) (fun hc71 => ?_)
                        · 
                          replace hc71 := not_t hc71
                          refine gseq fun N27 hN27 => ?_
                          refine greg ?_
                          refine gop (y_assign (v := .int _ _) rfl) rfl rfl rfl ?_
                          refine gops_nil ?_
                          refine hN27 _ _ ?_
                          refine gfrom [(2, .int _ _)] ⟨rfl, trivial⟩ fun σ => ?_
                          refine gret fun w1 hM => ?_
                          refine ⟨_, res1 rfl (rt (v := .int _ _) rfl), ?_⟩
                          have hpc : partCode (cutS s)[k] = 12 := by rw [partCode, hdot, hss, if_neg (by simp), if_neg (by simp), ← hi2]; exact scanP_char (by omega) hwb (by first | (simp_all [charBad]; done) | (simp_all [charBad]; omega))
                          exact ⟨by rw [patCode, if_neg (by omega), partsCode_hit (List.getElem?_eq_getElem hk1) hz (by omega), hpc]; rfl, hM.low⟩
                        · 
                          replace hc71 := not_f hc71
                          refine gskip ?_
                          refine gcut3_end (()) (⟨hwb, by first | (simp [charBad]; omega) | (simp_all [charBad]; done) | (simp_all [charBad]; omega)⟩) trivial ⟨rfl, rfl, rfl, rfl, trivial⟩ ⟨_, rfl⟩
                      · 
                        have hg65d := Decidable.not_not.1 (of_decide_eq_false hg65)
                        refine gop_off rfl rfl rfl rfl hg65 rfl rfl ?_
                        refine gop_off rfl rfl rfl rfl hg65 rfl rfl ?_
                        refine gop_off rfl rfl rfl rfl hg65 rfl rfl ?_
                        refine gop_off rfl rfl rfl rfl hg65 rfl rfl ?_
                        refine gop (y_pick_f (v := .bool _) rfl hg65 rfl) rfl rfl rfl ?_
                        refine gops_nil ?_
                        refine hN26 _ _ ?_
                        refine gT [rowl _ _ _ _ _ _] rfl ?_
                        refine gfrom [(3, .slice (some ⟨rg0, 0, none⟩) _ _), (4, .int _ _), (5, .string _), (6, .int _ _), (71, .bool _)] ⟨rfl, rfl, rfl, rfl, rfl, trivial⟩ fun σ => ?_
                        refine gcond (b := _) rfl (fun hc71 => ?_) (fun hc71 => ?_)
                        · 
                          cases hc71
                        · 
                          refine gskip ?_
                          refine gcut3_end (()) (⟨hwb, by first | (simp [charBad]; omega) | (simp_all [charBad]; done) | (simp_all [charBad]; omega)⟩) trivial ⟨rfl, rfl, rfl, rfl, trivial⟩ ⟨_, rfl⟩
                    · 
                      have hg59d := Decidable.not_not.1 (of_decide_eq_false hg59)
                      refine gop_off rfl rfl rfl rfl hg59 rfl rfl ?_
                      refine gop_off rfl rfl rfl rfl hg59 rfl rfl ?_
                      refine gop_off rfl rfl rfl rfl hg59 rfl rfl ?_
                      refine gop (y_pick_f (v := .bool _) rfl hg59 rfl) rfl rfl rfl ?_
                      refine gop (y_move (v := .bool _) rfl) rfl rfl rfl ?_
                      refine gop_off rfl rfl rfl rfl rfl rfl rfl ?_
                      refine gop_off rfl rfl rfl rfl rfl rfl rfl ?_
                      refine gop_off rfl rfl rfl rfl rfl rfl rfl ?_
                      refine gop_off rfl rfl rfl rfl rfl rfl rfl ?_
                      refine gop_off rfl rfl rfl rfl rfl rfl rfl ?_
                      refine gop (y_pick_f (v := .bool _) rfl rfl rfl) rfl rfl rfl ?_
                      refine gops_nil ?_
                      refine hN26 _ _ ?_
                      refine gT [rowl _ _ _ _ _ _] rfl ?_
                      refine gfrom [(3, .slice (some ⟨rg0, 0, none⟩) _ _), (4, .int _ _), (5, .string _), (6, .int _ _), (71, .bool _)] ⟨rfl, rfl, rfl, rfl, rfl, trivial⟩ fun σ => ?_
                      refine gcond (b := _) rfl (fun hc71 => ?_) (fun hc71 => ?_)
                      · 
                        cases hc71
                      · 
                        refine gskip ?_
                        refine gcut3_end (()) (⟨hwb, by first | (simp [charBad]; omega) | (simp_all [charBad]; done) | (simp_all [charBad]; omega)⟩) trivial ⟨rfl, rfl, rfl, rfl, trivial⟩ ⟨_, rfl⟩
                ·
                  intro g hcut σ
                  refine hN22 _ _ ?_
                  obtain ⟨hwb, hcb⟩ := hcut
                  refine greg ?_
                  refine gop (y_move (v := .int _ _) rfl) rfl rfl rfl ?_
                  refine gop (y_add rfl rfl ⟨by omega, by omega⟩) rfl rfl rfl ?_
                  refine gop (y_assign (v := .int _ _) rfl) rfl rfl rfl ?_
                  refine gops_nil ?_
                  refine gnext2 (i + 1) (by omega) (⟨by omega, (scanP_step (by omega) hwb hcb).trans hi2⟩) ⟨rfl, trivial⟩ ⟨rfl, rfl, rfl, trivial⟩ ⟨_, rfl⟩
              · 
                replace hc37 := of_decide_eq_false hc37
                have hpz : partCode (cutS s)[k] = 0 := by rw [partCode, hdot, hss, if_neg (by simp), if_neg (by simp), ← hi2, show i = (cutS s)[k].size by omega]; exact scanP_end
                refine gexit ?_
                refine hN10 _ _ ?_
                refine gfrom [(3, .slice (some ⟨rg0, 0, none⟩) _ _), (4, .int _ _)] ⟨rfl, rfl, trivial⟩ fun σ => ?_
                refine greg ?_
                refine gop (y_move (v := .int _ _) rfl) rfl rfl rfl ?_
                refine gop (y_add rfl rfl ⟨by omega, by omega⟩) rfl rfl rfl ?_
                refine gop (y_assign (v := .int _ _) rfl) rfl rfl rfl ?_
                refine gops_nil ?_
                refine gnext2 (k + 1) (by omega) (⟨by omega, fun j h hj => by rcases Nat.lt_succ_iff_lt_or_eq.1 hj with h1 | rfl; exact hz j h h1; exact hpz⟩) ⟨rfl, trivial⟩ ⟨rfl, trivial⟩ ⟨_, rfl⟩
      · 
        replace hc15 := of_decide_eq_false hc15
        have hB : patCode s = 0 := by rw [patCode, if_neg (by omega)]; exact partsCode_zero (fun j hj => hz j hj (by omega))
        refine gexit ?_
        refine hN6 _ _ ?_
        refine gfrom [] trivial fun σ => ?_
        refine gseq fun N28 hN28 => ?_
        refine greg ?_
        refine gop (y_assign (v := .int _ _) rfl) rfl rfl rfl ?_
        refine gops_nil ?_
        refine hN28 _ _ ?_
        refine gfrom [(2, .int _ _)] ⟨rfl, trivial⟩ fun σ => ?_
        refine gret fun w1 hM => ?_
        refine ⟨_, res1 rfl (rt (v := .int _ _) rfl), ?_⟩
        exact ⟨by rw [hB]; rfl, hM.low⟩
end Go.Proofs.YtbkameioedmlkaaGreatDoor
