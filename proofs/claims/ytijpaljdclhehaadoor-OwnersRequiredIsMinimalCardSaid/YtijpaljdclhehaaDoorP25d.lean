/-
  OwnersRequiredIsMinimal: for all rules and paths the law returns true (the tied card).
-/
import Derived.Test.YtijpaljdclhehaaDoorP25c
import Derived.Deep.DeepHandedRow
import Derived.Lib.LaidTab
import Derived.Test.YtijpaljdclhehaaDoorCards
import Derived.Test.YtijpaljdclhehaaDoorProg
import Derived.Test.YtijpaljdclhehaaDoorTie
namespace Go.Proofs.YtijpaljdclhehaaDoor
open Go.RowKit Go.Cf
set_option maxRecDepth 10000
theorem el32 : Elem Tryd.prog 32 2 40 := elem_of (z := .agg #[.string .empty, .slice none 0 0]) (by kernel_rfl) rfl (by decide)
set_option maxHeartbeats 2000000 in
theorem parseFile_any (w : World) (A : Option Addr) (c : Nat) (text : List ByteArray) (ht : Rdl w 0 1 strCells A text) (hm : text.length ≤ maxLen) :
    Calls Tryd.prog 22 #[.slice A text.length c] w fun e w' => ∃ v T' rs' fr, e = .returned (.tuple #[v, fv (fileF text)]) ∧ T' = [rowl ruleCells w.heap.size 32 2 (v) (rs'), fr] ∧ rls rs' = fileV text ∧ (∀ w1, fr.ok w1 → ∀ a ∈ rs', RuleR w1 w.heap.size a) ∧ Mem w T' w' := by
  refine gcalls Tryd.func22 rfl Tryd.ntmps22 (Nat.le_of_ble_eq_true rfl) ?_
  refine gfrom [(0, .slice _ _ _)] ⟨rfl, trivial⟩ fun σ => ?_
  refine gseq fun N1 hN1 => ?_
  refine greg ?_
  refine gop (y_assign (v := .slice _ _ _) rfl) rfl rfl rfl ?_
  refine gop_alloc (cs := #[.int .i64 0, .int .i64 0]) Tryd.zeroValue23 rfl rfl (fun b3 hb3 => ?_)
  refine gops_nil ?_
  refine hN1 _ _ ?_
  refine gT [box b3 _] rfl ?_
  refine gfrom [(0, .slice _ _ _), (3, .pointer _)] ⟨rfl, rfl, trivial⟩ fun σ => ?_
  refine gseq fun N2 hN2 => ?_
  refine gseq fun N3 hN3 => ?_
  refine greg ?_
  refine gop (y_move (v := .slice _ _ _) rfl) rfl rfl rfl ?_
  refine gop_pure (e_call (vs := [.slice _ _ _]) Tryd.func29 rfl (by kernel_rfl) rfl) (fun w hM => linesValidate_any w A c text (ht.base hM) hm) rfl rfl rfl ?_
  refine gop_alloc (cs := #[.int .i64 0, .int .i64 0]) Tryd.zeroValue23 rfl rfl (fun b4 hb4 => ?_)
  refine gop_store 1 (v := .agg #[_, _]) (cs' := #[_, _]) rfl rfl Tryd.sizeOf23 rfl rfl rfl rfl (Nat.le_of_ble_eq_true rfl) rfl rfl ?_
  refine gops_nil ?_
  refine hN3 _ _ ?_
  refine gT [box b3 _, box b4 _] rfl ?_
  refine gfrom [(0, .slice _ _ _), (3, .pointer _), (4, .pointer _)] ⟨rfl, rfl, rfl, trivial⟩ fun σ => ?_
  refine gseq fun N4 hN4 => ?_
  refine greg ?_
  refine gop (y_loads (cs := [_, _]) Tryd.isAgg23 Tryd.sizeOf23 rfl rfl (cells_box 1 rfl)) rfl rfl rfl ?_
  refine gop (y_build (vs := []) (cells := #[.int .i64 0, .int .i64 0]) rfl bd23_) rfl rfl rfl ?_
  refine gop (y_bin (vx := .agg #[_, _]) (vy := .agg #[_, _]) rfl rfl (fun w => eg23 _ _ _ _ _ w) (fun w => ne23 _ _ _ _ w)) rfl rfl rfl ?_
  refine gops_nil ?_
  refine hN4 _ _ ?_
  refine gfrom [(0, .slice _ _ _), (3, .pointer _), (4, .pointer _), (14, .bool _)] ⟨rfl, rfl, rfl, rfl, trivial⟩ fun σ => ?_
  refine gcond (b := _) rfl (fun hc14 => ?_) (fun hc14 => ?_)
  · 
    replace hc14 := fault_ne.1 hc14
    have hFF : fileF text = linesF text := by rw [fileF, if_pos hc14]
    refine gseq fun N5 hN5 => ?_
    refine greg_e1 [] [(0, room b3 23 2)] (by kernel_rfl) ?_
    refine ge_take 0 (TK := [room b3 23 2, box b4 _]) rfl (by kernel_rfl) (by kernel_rfl) (by kernel_rfl) #[false, true, false] (by kernel_rfl) rfl (y_loads (cs := [_, _]) Tryd.isAgg23 Tryd.sizeOf23 rfl rfl (cells_box 1 rfl)) rfl rfl rfl (weak_room 0 rfl rfl) (listed' := #[true, false, false]) rfl ?_
    refine ge_take 1 (TK := [room b3 23 2, box b4 _]) rfl (by kernel_rfl) (by kernel_rfl) (by kernel_rfl) #[true, false, false] (by kernel_rfl) rfl (y_assign (v := .slice _ _ _) rfl) rfl rfl rfl (weak_room 0 rfl rfl) (listed' := #[true, true, false]) rfl ?_
    refine ge_one 2 (k' := 0) (listed' := #[true, true, true]) (by kernel_rfl) rfl rfl rfl ?_
    refine gop_store 0 (v := .agg #[_, _]) (cs' := #[_, _]) rfl rfl Tryd.sizeOf23 rfl rfl rfl rfl (Nat.le_of_ble_eq_true rfl) rfl rfl ?_
    refine gops_nil ?_
    refine ge_fin (TK := [room b3 23 2, box b4 _]) rfl (weak_room 0 rfl rfl) ?_
    refine ge_done (by kernel_rfl) ?_
    refine hN5 _ _ ?_
    refine gT [box b3 _, box b4 _] rfl ?_
    refine gfrom [(2, .slice _ _ _), (3, .pointer _)] ⟨rfl, rfl, trivial⟩ fun σ => ?_
    refine gret fun w1 hM => ?_
    refine ⟨_, res2 rfl (rt (v := .slice _ _ _) rfl) (rc 0 (cs := [_, _]) hM rfl rfl Tryd.isAgg23 Tryd.sizeOf23 rfl), ?_⟩
    exact ⟨_, _, [], emp, by rw [hFF], rfl, by rw [fileV, if_neg (by rw [hFF]; exact hc14)]; rfl, fun _ _ _ h => (by cases h), (mem_nilrow ruleCells 32 2 hM).emp.dropTo 2 rfl⟩
  · 
    replace hc14 := fault_eq.1 hc14
    have hls := line_size hc14
    refine gskip ?_
    refine hN2 _ _ ?_
    refine gfrom [(0, .slice _ _ _), (3, .pointer _)] ⟨rfl, rfl, trivial⟩ fun σ => ?_
    refine gseq fun N6 hN6 => ?_
    refine greg ?_
    refine gop (y_assign (v := .slice _ _ _) rfl) rfl rfl rfl ?_
    refine gops_nil ?_
    refine hN6 _ _ ?_
    refine gfrom [(0, .slice _ _ _), (3, .pointer _), (5, .slice _ _ _)] ⟨rfl, rfl, rfl, trivial⟩ fun σ => ?_
    refine gseq fun N7 hN7 => ?_
    refine gseq fun N8 hN8 => ?_
    refine greg ?_
    refine gop (y_move (v := .slice _ _ _) rfl) rfl rfl rfl ?_
    refine gop (y_len Tryd.underlying37 rfl) rfl rfl rfl ?_
    refine gop (y_move (v := .int _ _) rfl) rfl rfl rfl ?_
    refine gops_nil ?_
    refine hN8 _ _ ?_
    refine gfrom [(3, .pointer _), (5, .slice _ _ _), (16, .slice _ _ _), (17, .int _ _), (18, .int _ _)] ⟨rfl, rfl, rfl, rfl, rfl, trivial⟩ fun σ => ?_
    refine gblock ?_
    refine gnilrow ruleCells 32 2 ?_
    refine g_emp ?_
    refine gfrom2 [(5, .slice _ _ _), (18, .int _ _)] [(3, .pointer _), (16, .slice _ _ _), (17, .int _ _)] ⟨rfl, rfl, trivial⟩ ⟨rfl, rfl, rfl, trivial⟩ fun σ => ?_
    refine gloop2 (G := Nat × Option Addr × Nat × List RuleC × Reg) (fun (k, Av, cv, rn, fr) => k ≤ text.length ∧ rls rn = readL (text.take k) ∧ (∀ j (h : j < text.length), j < k → badL text[j] = 0) ∧ ∀ w1, fr.ok w1 → ∀ a ∈ rn, RuleR w1 w.heap.size a) (fun (k, Av, cv, rn, fr) => text.length - k) (fun (k, Av, cv, rn, fr) => [(5, .slice Av rn.length cv), (18, .int .i64 (k : Int))]) (fun (k, Av, cv, rn, fr) => [(2, rowl ruleCells w.heap.size 32 2 (.slice Av rn.length cv) (rn)), (3, fr)]) ((0, none, 0, [], emp)) ?h0 ⟨rfl, rfl, trivial⟩ ⟨rfl, rfl, rfl, trivial⟩ rfl ?round
    case h0 => exact ⟨Nat.zero_le _, rfl, fun _ _ h => absurd h (by omega), fun _ _ _ h => (by cases h)⟩
    case round =>
      rintro ⟨k, Av, cv, rn, fr⟩ hφ σ
      obtain ⟨hk, hrl, hz, hfr⟩ := hφ
      have hrnl : rn.length ≤ k := by have h8 := congrArg List.length hrl; have h9 := readL_len (text.take k); simp at h8 h9; omega
      refine gT [box b3 _, box b4 _, rowl _ _ _ _ _ _, fr] rfl ?_
      refine gseq fun N9 hN9 => ?_
      refine greg ?_
      refine gop (y_lss rfl rfl) rfl rfl rfl ?_
      refine gops_nil ?_
      refine hN9 _ _ ?_
      refine gfrom [(3, .pointer _), (5, .slice Av _ cv), (16, .slice _ _ _), (17, .int _ _), (18, .int _ _), (19, .bool _)] ⟨rfl, rfl, rfl, rfl, rfl, rfl, trivial⟩ fun σ => ?_
      refine gseq fun N10 hN10 => ?_
      refine gcond (b := _) rfl (fun hc19 => ?_) (fun hc19 => ?_)
      · 
        replace hc19 := of_decide_eq_true hc19
        have hk1 : k < text.length := by omega
        obtain ⟨ad, rfl, -, hca⟩ := ht.at_ hk1
        refine gskip ?_
        refine hN10 _ _ ?_
        refine gfrom [(3, .pointer _), (5, .slice Av _ cv), (16, .slice _ _ _), (17, .int _ _), (18, .int _ _)] ⟨rfl, rfl, rfl, rfl, rfl, trivial⟩ fun σ => ?_
        refine gseq fun N11 hN11 => ?_
        refine gblock ?_
        refine gseq fun N12 hN12 => ?_
        refine greg ?_
        refine gop (y_move (v := .int _ _) rfl) rfl rfl rfl ?_
        refine gop (y_indexAddr (m := k) Tryd.underlying37 Tryd.sizeOf9 rfl rfl (by omega) (by omega) (by omega)) rfl rfl rfl ?_
        refine gop (y_load Tryd.isAgg9 rfl (cell_base (hca 0 _ rfl))) rfl rfl rfl ?_
        refine gop (y_assign (v := .int _ _) rfl) rfl rfl rfl ?_
        refine gop (y_assign (v := .string _) rfl) rfl rfl rfl ?_
        refine gops_nil ?_
        refine hN12 _ _ ?_
        refine gfrom [(3, .pointer _), (5, .slice Av _ cv), (6, .int _ _), (7, .string _), (16, .slice _ _ _), (17, .int _ _), (18, .int _ _)] ⟨rfl, rfl, rfl, rfl, rfl, rfl, rfl, trivial⟩ fun σ => ?_
        refine gseq fun N13 hN13 => ?_
        refine gseq fun N14 hN14 => ?_
        refine greg ?_
        refine gop (y_move (v := .string _) rfl) rfl rfl rfl ?_
        refine gop (y_eqls rfl rfl) rfl rfl rfl ?_
        refine gop (y_move (v := .bool _) rfl) rfl rfl rfl ?_
        refine gop_if (want := false) rfl rfl rfl rfl rfl rfl (fun hg25 => ?_) (fun hg25 => ?_)
        · 
          have hg25d := hg25
          have hsz : 0 < text[k].size := str_pos hg25d
          refine gop (y_bare (y_move (v := .string _) rfl)) rfl rfl rfl ?_
          refine gop_on rfl rfl rfl rfl hg25 ?_
          refine gop (y_bare (y_stridx (m := 0) Tryd.underlying9 rfl rfl (by omega) (by omega) (by omega))) rfl rfl rfl ?_
          refine gop_on rfl rfl rfl rfl hg25 ?_
          refine gop (y_bare (y_eql rfl rfl)) rfl rfl rfl ?_
          refine gop (y_pick_f (v := .bool _) rfl hg25 rfl) rfl rfl rfl ?_
          refine gops_nil ?_
          refine hN14 _ _ ?_
          refine gfrom [(3, .pointer _), (5, .slice Av _ cv), (6, .int _ _), (7, .string _), (16, .slice _ _ _), (17, .int _ _), (18, .int _ _), (29, .bool _)] ⟨rfl, rfl, rfl, rfl, rfl, rfl, rfl, rfl, trivial⟩ fun σ => ?_
          refine gcond (b := _) rfl (fun hc29 => ?_) (fun hc29 => ?_)
          · 
            replace hc29 := of_decide_eq_true hc29
            have hsk : skipL text[k] = true := by first | (unfold skipL; rw [show strEq text[k] ⟨#[]⟩ = true from hg25d]; rfl) | (unfold skipL; rw [decide_eq_true (show byteAt text[k] 0 = 35 by omega)]; simp)
            refine gexit ?_
            refine hN11 _ _ ?_
            refine gfrom [(3, .pointer _), (5, .slice Av _ cv), (16, .slice _ _ _), (17, .int _ _), (18, .int _ _)] ⟨rfl, rfl, rfl, rfl, rfl, trivial⟩ fun σ => ?_
            refine greg ?_
            refine gop (y_add rfl rfl ⟨by omega, by omega⟩) rfl rfl rfl ?_
            refine gop (y_move (v := .int _ _) rfl) rfl rfl rfl ?_
            refine gops_nil ?_
            refine gnext2 ((k + 1, Av, cv, rn, fr)) (by show text.length - (k + 1) < text.length - k; omega) (⟨by show k + 1 ≤ _; omega, by rw [readL_take hk1, hsk]; simpa using hrl, fun j h hj => by rcases Nat.lt_succ_iff_lt_or_eq.1 hj with h1 | rfl; exact hz j h h1; rw [badL, if_pos hsk], hfr⟩) ⟨rfl, rfl, trivial⟩ ⟨rfl, rfl, rfl, trivial⟩ ⟨_, rfl⟩
            skip
          · 
            replace hc29 := of_decide_eq_false hc29
            have hsk : skipL text[k] = false := by unfold skipL; rw [show strEq text[k] ⟨#[]⟩ = false from hg25d, decide_eq_false (show ¬ byteAt text[k] 0 = 35 by omega)]; rfl
            have hbd : badL text[k] = lineC text[k] := by rw [badL, hsk]; rfl
            refine gskip ?_
            refine hN13 _ _ ?_
            refine gfrom [(3, .pointer _), (5, .slice Av _ cv), (6, .int _ _), (7, .string _), (16, .slice _ _ _), (17, .int _ _), (18, .int _ _)] ⟨rfl, rfl, rfl, rfl, rfl, rfl, rfl, trivial⟩ fun σ => ?_
            refine gseq fun N15 hN15 => ?_
            refine greg ?_
            refine gop (y_move (v := .string _) rfl) rfl rfl rfl ?_
            refine gop_got (fun v T' => ∃ A1 c1 lo, w.heap.size ≤ lo ∧ v = .tuple #[.agg #[.string (lineR text[k]).pat, .slice A1 (lineR text[k]).users.length c1], .int .i64 (lineC text[k])] ∧ T' = [rowl intCells lo 3 1 (.slice A1 (lineR text[k]).users.length c1) ((lineR text[k]).users)]) (e_call (vs := [.string _]) Tryd.func50 rfl (by kernel_rfl) rfl) (fun w hM => (parse_any w text[k] (by have h9 := (hls.2 k hk1).2; omega)).mono fun _ _ ⟨A1, c1, T1, h1, h2, h3⟩ => ⟨_, T1, h1, ⟨A1, c1, _, hM.low.size, rfl, h2⟩, h3⟩) rfl rfl rfl ?_
            rintro _ _ ⟨A32, c32, lo32, hlo32, rfl, rfl⟩
            refine gops_mem _ (weak_lower 4 rfl hlo32) ?_
            refine gop (y_move (v := .tuple #[.agg #[_, _], .int _ _]) rfl) rfl rfl rfl ?_
            refine gop (y_extract (v := .agg #[_, _]) rfl rfl) rfl rfl rfl ?_
            refine gop (y_extract (v := .int _ _) rfl rfl) rfl rfl rfl ?_
            refine gop_alloc (cs := #[.string .empty, .slice none 0 0]) Tryd.zeroValue32 rfl rfl (fun b8 hb8 => ?_)
            refine gop_store 5 (v := .agg #[_, _]) (cs' := #[_, _]) rfl rfl Tryd.sizeOf32 rfl rfl rfl rfl (Nat.le_of_ble_eq_true rfl) rfl rfl ?_
            refine gop (y_assign (v := .int _ _) rfl) rfl rfl rfl ?_
            refine gops_nil ?_
            refine hN15 _ _ ?_
            refine gT [box b3 _, box b4 _, rowl _ _ _ _ _ _, fr, rowl _ _ _ _ _ _, box b8 _] rfl ?_
            refine gfrom [(3, .pointer _), (5, .slice Av _ cv), (6, .int _ _), (8, .pointer _), (9, .int _ _), (16, .slice _ _ _), (17, .int _ _), (18, .int _ _)] ⟨rfl, rfl, rfl, rfl, rfl, rfl, rfl, rfl, trivial⟩ fun σ => ?_
            refine gseq fun N16 hN16 => ?_
            refine gseq fun N17 hN17 => ?_
            refine greg ?_
            refine gop (y_move (v := .int _ _) rfl) rfl rfl rfl ?_
            refine gop (y_neq rfl rfl) rfl rfl rfl ?_
            refine gops_nil ?_
            refine hN17 _ _ ?_
            refine gfrom [(3, .pointer _), (5, .slice Av _ cv), (6, .int _ _), (8, .pointer _), (9, .int _ _), (16, .slice _ _ _), (17, .int _ _), (18, .int _ _), (36, .bool _)] ⟨rfl, rfl, rfl, rfl, rfl, rfl, rfl, rfl, rfl, trivial⟩ fun σ => ?_
            refine gcond (b := _) rfl (fun hc36 => ?_) (fun hc36 => ?_)
            · 
              replace hc36 := of_decide_eq_true hc36
              have hsc := scan_at (f := fun _ s => badL s) hk1 hz (by rw [hbd]; exact hc36)
              have hFF : fileF text = ⟨lineC text[k], k⟩ := by rw [fileF, if_neg (fun h => h hc14), hsc, hbd, if_pos (fun h => hc36 (congrArg Fault.code h))]
              refine gseq fun N18 hN18 => ?_
              refine greg ?_
              refine gop (y_move (v := .int _ _) rfl) rfl rfl rfl ?_
              refine gop (y_move (v := .int _ _) rfl) rfl rfl rfl ?_
              refine gop (y_build (vs := [(0, .int _ _), (1, .int _ _)]) (cells := #[_, _]) rfl (bd23_0_1 _ _)) rfl rfl rfl ?_
              refine gop (y_assign (v := .slice _ _ _) rfl) rfl rfl rfl ?_
              refine gop_store 0 (v := .agg #[_, _]) (cs' := #[_, _]) rfl rfl Tryd.sizeOf23 rfl rfl rfl rfl (Nat.le_of_ble_eq_true rfl) rfl rfl ?_
              refine gops_nil ?_
              refine hN18 _ _ ?_
              refine gT [box b3 _, box b4 _, rowl _ _ _ _ _ _, fr, rowl _ _ _ _ _ _, box b8 _] rfl ?_
              refine gfrom [(2, .slice _ _ _), (3, .pointer _)] ⟨rfl, rfl, trivial⟩ fun σ => ?_
              refine gret fun w1 hM => ?_
              refine ⟨_, res2 rfl (rt (v := .slice _ _ _) rfl) (rc 0 (cs := [_, _]) hM rfl rfl Tryd.isAgg23 Tryd.sizeOf23 rfl), ?_⟩
              exact ⟨_, _, [], emp, by rw [hFF], rfl, by rw [fileV, if_neg (by rw [hFF]; exact fun h => hc36 (congrArg Fault.code h))]; rfl, fun _ _ _ h => (by cases h), (mem_nilrow ruleCells 32 2 hM).emp.dropTo 6 rfl⟩
            · 
              replace hc36 := Decidable.not_not.1 (of_decide_eq_false hc36)
              refine gskip ?_
              refine hN16 _ _ ?_
              refine gfrom [(3, .pointer _), (5, .slice Av _ cv), (8, .pointer _), (16, .slice _ _ _), (17, .int _ _), (18, .int _ _)] ⟨rfl, rfl, rfl, rfl, rfl, rfl, trivial⟩ fun σ => ?_
              refine greg ?_
              refine gop (y_move (v := .slice Av _ cv) rfl) rfl rfl rfl ?_
              refine gop (y_loads (cs := [_, _]) Tryd.isAgg32 Tryd.sizeOf32 rfl rfl (cells_box 5 rfl)) rfl rfl rfl ?_
              refine gop_lit (vs := [.agg #[_, _]]) (cells := #[_, _]) Tryd.underlying29 Tryd.sizeOf32 Tryd.zeroValue32 rfl (by decide) (by decide) rfl rfl rfl rfl (fun b42 hb42 => ?_)
              refine gop_append 2 (f := ruleCells) (l2 := [⟨lineR text[k], A32, c32⟩]) Tryd.underlying29 el32 wide_rule (v := .slice Av _ cv) rfl rfl rfl rfl (fun h => by cases h) (by simp [maxLen]; omega) (by simp; omega) (src_box 6 rfl rfl) rfl (fun v43 => ?_)
              refine gops_fact (fun w hM => own_form (hM.own 2 rfl)) ?_
              rintro ⟨A43, c43, rfl, hc43, hm43⟩
              refine gop (y_assign (v := .slice A43 _ c43) rfl) rfl rfl rfl ?_
              refine gops_nil ?_
              refine hN11 _ _ ?_
              refine gT [box b3 _, box b4 _, rowl _ _ _ _ _ _, fr, rowl _ _ _ _ _ _, box b8 _, box b42 _] rfl ?_
              refine gfrom [(3, .pointer _), (5, .slice A43 _ c43), (16, .slice _ _ _), (17, .int _ _), (18, .int _ _)] ⟨rfl, rfl, rfl, rfl, rfl, trivial⟩ fun σ => ?_
              refine greg ?_
              refine gop (y_add rfl rfl ⟨by omega, by omega⟩) rfl rfl rfl ?_
              refine gop (y_move (v := .int _ _) rfl) rfl rfl rfl ?_
              refine gops_nil ?_
              refine fin_mem _ (weak_all 4 3 rfl) ?_
              refine gnext2 ((k + 1, A43, c43, rn ++ [⟨lineR text[k], A32, c32⟩], both fr (all_ [_, _, _]))) (by show text.length - (k + 1) < text.length - k; omega) (⟨by show k + 1 ≤ _; omega, by rw [readL_take hk1, hsk]; show List.map _ _ = _; rw [List.map_append]; show rls rn ++ _ = _; rw [hrl]; rfl, fun j h hj => by rcases Nat.lt_succ_iff_lt_or_eq.1 hj with h1 | rfl; exact hz j h h1; rw [hbd]; exact hc36, fun w1 ho a ha => ?hr⟩) ⟨rfl, rfl, trivial⟩ ⟨rfl, rfl, rfl, trivial⟩ ⟨_, rfl⟩
              case hr =>
                rcases List.mem_append.1 ha with ha | ha
                · exact hfr w1 ho.1 a ha
                · obtain rfl := List.mem_singleton.1 ha
                  exact ruleR_row (ho.2.1) (Nat.le_trans (show (lineR text[k]).users.length * 8 ≤ 40000000 by have h9 := lineR_len text[k]; have h8 := (hls.2 k hk1).2; omega) (by decide))
        · 
          have hg25d := hg25
          refine gop_off rfl rfl rfl rfl hg25 rfl rfl ?_
          refine gop_off rfl rfl rfl rfl hg25 rfl rfl ?_
          refine gop (y_pick_t (v := .bool _) rfl hg25 rfl) rfl rfl rfl ?_
          refine gops_nil ?_
          refine hN14 _ _ ?_
          refine gfrom [(3, .pointer _), (5, .slice Av _ cv), (6, .int _ _), (7, .string _), (16, .slice _ _ _), (17, .int _ _), (18, .int _ _), (29, .bool _)] ⟨rfl, rfl, rfl, rfl, rfl, rfl, rfl, rfl, trivial⟩ fun σ => ?_
          refine gcond (b := _) rfl (fun hc29 => ?_) (fun hc29 => ?_)
          · 
            have hsk : skipL text[k] = true := by first | (unfold skipL; rw [show strEq text[k] ⟨#[]⟩ = true from hg25d]; rfl) | (unfold skipL; rw [decide_eq_true (show byteAt text[k] 0 = 35 by omega)]; simp)
            refine gexit ?_
            refine hN11 _ _ ?_
            refine gfrom [(3, .pointer _), (5, .slice Av _ cv), (16, .slice _ _ _), (17, .int _ _), (18, .int _ _)] ⟨rfl, rfl, rfl, rfl, rfl, trivial⟩ fun σ => ?_
            refine greg ?_
            refine gop (y_add rfl rfl ⟨by omega, by omega⟩) rfl rfl rfl ?_
            refine gop (y_move (v := .int _ _) rfl) rfl rfl rfl ?_
            refine gops_nil ?_
            refine gnext2 ((k + 1, Av, cv, rn, fr)) (by show text.length - (k + 1) < text.length - k; omega) (⟨by show k + 1 ≤ _; omega, by rw [readL_take hk1, hsk]; simpa using hrl, fun j h hj => by rcases Nat.lt_succ_iff_lt_or_eq.1 hj with h1 | rfl; exact hz j h h1; rw [badL, if_pos hsk], hfr⟩) ⟨rfl, rfl, trivial⟩ ⟨rfl, rfl, rfl, trivial⟩ ⟨_, rfl⟩
            skip
          · 
            cases hc29
      · 
        replace hc19 := of_decide_eq_false hc19
        have hsc : scan (fun _ s => badL s) text = ⟨0, 0⟩ := scan_ok fun j hj => hz j hj (by omega)
        have hrn : rls rn = readL text := by rw [hrl, List.take_of_length_le (by omega)]
        refine gexit ?_
        refine hN7 _ _ ?_
        refine gfrom [(3, .pointer _), (5, .slice Av _ cv)] ⟨rfl, rfl, trivial⟩ fun σ => ?_
        refine gseq fun N19 hN19 => ?_
        refine gseq fun N20 hN20 => ?_
        refine greg ?_
        refine gop (y_move (v := .slice Av _ cv) rfl) rfl rfl rfl ?_
        refine gop (y_len Tryd.underlying29 rfl) rfl rfl rfl ?_
        refine gop (y_gtr rfl rfl) rfl rfl rfl ?_
        refine gops_nil ?_
        refine hN20 _ _ ?_
        refine gfrom [(3, .pointer _), (5, .slice Av _ cv), (47, .bool _)] ⟨rfl, rfl, rfl, trivial⟩ fun σ => ?_
        refine gcond (b := _) rfl (fun hc47 => ?_) (fun hc47 => ?_)
        · 
          replace hc47 := of_decide_eq_true hc47
          refine gseq fun N21 hN21 => ?_
          refine greg ?_
          refine gop (y_build (vs := [(0, _), (1, _)]) (cells := #[_, _]) rfl (bd23_0_1 _ _)) rfl rfl rfl ?_
          refine gop (y_assign (v := .slice _ _ _) rfl) rfl rfl rfl ?_
          refine gop_store 0 (v := .agg #[_, _]) (cs' := #[_, _]) rfl rfl Tryd.sizeOf23 rfl rfl rfl rfl (Nat.le_of_ble_eq_true rfl) rfl rfl ?_
          refine gops_nil ?_
          refine hN21 _ _ ?_
          refine gT [box b3 _, box b4 _, rowl _ _ _ _ _ _, fr] rfl ?_
          refine gfrom [(2, .slice _ _ _), (3, .pointer _)] ⟨rfl, rfl, trivial⟩ fun σ => ?_
          refine gret fun w1 hM => ?_
          refine ⟨_, res2 rfl (rt (v := .slice _ _ _) rfl) (rc 0 (cs := [_, _]) hM rfl rfl Tryd.isAgg23 Tryd.sizeOf23 rfl), ?_⟩
          have hFF : fileF text = ⟨2, -1⟩ := by rw [fileF, if_neg (fun h => h hc14), hsc, if_neg (fun h => h rfl), ← hrn, if_pos (by simp; omega)]
          exact ⟨_, _, [], emp, by rw [hFF], rfl, by rw [fileV, if_neg (by rw [hFF]; decide)]; rfl, fun _ _ _ h => (by cases h), (mem_nilrow ruleCells 32 2 hM).emp.dropTo 4 rfl⟩
        · 
          replace hc47 := of_decide_eq_false hc47
          refine gskip ?_
          refine hN19 _ _ ?_
          refine gfrom [(3, .pointer _), (5, .slice Av _ cv)] ⟨rfl, rfl, trivial⟩ fun σ => ?_
          refine gseq fun N22 hN22 => ?_
          refine greg ?_
          refine gop (y_move (v := .slice Av _ cv) rfl) rfl rfl rfl ?_
          refine gop (y_build (vs := []) (cells := #[.int .i64 0, .int .i64 0]) rfl bd23_) rfl rfl rfl ?_
          refine gop (y_assign (v := .slice Av _ cv) rfl) rfl rfl rfl ?_
          refine gop_store 0 (v := .agg #[_, _]) (cs' := #[_, _]) rfl rfl Tryd.sizeOf23 rfl rfl rfl rfl (Nat.le_of_ble_eq_true rfl) rfl rfl ?_
          refine gops_nil ?_
          refine hN22 _ _ ?_
          refine gT [box b3 _, box b4 _, rowl _ _ _ _ _ _, fr] rfl ?_
          refine gfrom [(2, .slice Av _ cv), (3, .pointer _)] ⟨rfl, rfl, trivial⟩ fun σ => ?_
          refine gret fun w1 hM => ?_
          refine ⟨_, res2 rfl (rt (v := .slice Av _ cv) rfl) (rc 0 (cs := [_, _]) hM rfl rfl Tryd.isAgg23 Tryd.sizeOf23 rfl), ?_⟩
          have hFF : fileF text = ⟨0, 0⟩ := by rw [fileF, if_neg (fun h => h hc14), hsc, if_neg (fun h => h rfl), ← hrn, if_neg (by simp; omega)]
          exact ⟨_, _, rn, fr, by rw [hFF], rfl, by rw [fileV, if_pos hFF, hrn], hfr, hM.dropTo 2 rfl⟩
end Go.Proofs.YtijpaljdclhehaaDoor
namespace Go.Proofs.YtijpaljdclhehaaDoor
open Go.RowKit Go.Cf
set_option maxRecDepth 10000
set_option maxHeartbeats 2000000 in
theorem ownersExample_any (w : World) : Calls Tryd.prog 19 #[] w fun e w' => e = .returned (.bool true) ∧ Below w.heap.size w w' := by
  refine gcalls Tryd.func19 rfl Tryd.ntmps19 (Nat.le_of_ble_eq_true rfl) ?_
  refine gfrom [] trivial fun σ => ?_
  refine gseq fun N1 hN1 => ?_
  refine greg ?_
  refine gop (y_assign (v := .bool _) rfl) rfl rfl rfl ?_
  refine gops_nil ?_
  refine hN1 _ _ ?_
  refine gfrom [] trivial fun σ => ?_
  refine gseq fun N2 hN2 => ?_
  refine greg ?_
  refine gop_lit (vs := [.string _, .string _, .string _]) (cells := #[_, _, _]) Tryd.underlying37 Tryd.sizeOf9 Tryd.zeroValue9 rfl (by decide) (by decide) rfl rfl rfl rfl (fun b6 hb6 => ?_)
  refine gop_got (fun v T' => ∃ v1 rs' fr lo, w.heap.size ≤ lo ∧ v = .tuple #[v1, fv ⟨0, 0⟩] ∧ T' = [rowl ruleCells lo 32 2 (v1) (rs'), fr] ∧ rls rs' = fileV exT ∧ ∀ w1, fr.ok w1 → ∀ a ∈ rs', RuleR w1 0 a) (e_call (vs := [.slice (some _) _ _]) Tryd.func22 rfl (by kernel_rfl) rfl) (fun w hM => by have hc := parseFile_any w (some ⟨b6, 0, none⟩) 3 exT ((Rdl.of_box 0 (f := strCells) (fun _ => rfl) hM rfl rfl).mono (Nat.zero_le _)) (by decide); rw [oex1] at hc; exact hc.mono fun _ _ ⟨v, T1, rs', fr, h1, h2, h3, h4, h5⟩ => ⟨_, T1, h1, ⟨v, rs', fr, _, hM.low.size, rfl, h2, h3, fun w1 ho a ha => (h4 w1 ho a ha).mono (Nat.zero_le _)⟩, h5⟩) rfl rfl rfl ?_
  rintro _ _ ⟨v7, rs7, fr7, lo7, hlo7, rfl, rfl, hrs7, hfr7⟩
  have hl7 : rs7.length = 2 := by have h8 := congrArg List.length hrs7; rw [oex2] at h8; simpa using h8
  refine gops_fact (fun w hM => row_form (hM.ok _ (List.mem_of_getElem? (i := 1) rfl))) ?_
  rintro ⟨A7, c7, rfl, hc7, hm7, hn7⟩
  refine gop (y_move (v := .tuple #[.slice A7 _ c7, .agg #[_, _]]) rfl) rfl rfl rfl ?_
  refine gop (y_extract (v := .slice _ _ _) rfl rfl) rfl rfl rfl ?_
  refine gop (y_extract (v := .agg #[_, _]) rfl rfl) rfl rfl rfl ?_
  refine gop_alloc (cs := #[.int .i64 0, .int .i64 0]) Tryd.zeroValue23 rfl rfl (fun b2 hb2 => ?_)
  refine gop (y_assign (v := .slice _ _ _) rfl) rfl rfl rfl ?_
  refine gop_store 3 (v := .agg #[_, _]) (cs' := #[_, _]) rfl rfl Tryd.sizeOf23 rfl rfl rfl rfl (Nat.le_of_ble_eq_true rfl) rfl rfl ?_
  refine gops_nil ?_
  refine hN2 _ _ ?_
  refine gT [box b6 _, rowl _ _ _ _ _ _, fr7, box b2 _] rfl ?_
  refine gfrom [(1, .slice _ _ _), (2, .pointer _)] ⟨rfl, rfl, trivial⟩ fun σ => ?_
  refine gseq fun N3 hN3 => ?_
  refine greg ?_
  refine gop (y_move (v := .slice _ _ _) rfl) rfl rfl rfl ?_
  refine gop_got (fun v T' => ∃ v1 lo, w.heap.size ≤ lo ∧ v = .tuple #[v1, fv (⟨0, 0⟩)] ∧ T' = [rowl intCells lo 3 1 (v1) ([1, 3])]) (e_call (vs := [.slice _ _ _, _]) Tryd.func18 rfl (by kernel_rfl) rfl) (fun w hM => by have hc := of_any w A7 c7 (rs7) ⟨(row_rdl (f := ruleCells) (fun _ => rfl) (hM.ok _ (List.mem_of_getElem? (i := 1) rfl))).mono (Nat.zero_le _), hfr7 w (hM.ok _ (List.mem_of_getElem? (i := 2) rfl)), ⟨hc7, hm7, hn7, Nat.le_trans (show rs7.length * 40 ≤ 80 by omega) (by decide)⟩⟩ exPa; rw [hrs7, oex3, oex4] at hc; exact hc.mono fun _ _ ⟨v, T1, h1, h2, h3⟩ => ⟨_, T1, h1, ⟨v, _, hM.low.size, rfl, h2⟩, h3⟩) rfl rfl rfl ?_
  rintro _ _ ⟨v12, lo12, hlo12, rfl, rfl⟩
  refine gops_fact (fun w hM => row_form (hM.ok _ (List.mem_of_getElem? (i := 4) rfl))) ?_
  rintro ⟨A12, c12, rfl, hc12, hm12, hn12⟩
  refine gops_mem _ (weak_lower 4 rfl hlo12) ?_
  refine gop (y_move (v := .tuple #[.slice A12 _ c12, .agg #[_, _]]) rfl) rfl rfl rfl ?_
  refine gop (y_extract (v := .slice _ _ _) rfl rfl) rfl rfl rfl ?_
  refine gop (y_extract (v := .agg #[_, _]) rfl rfl) rfl rfl rfl ?_
  refine gop_alloc (cs := #[.int .i64 0, .int .i64 0]) Tryd.zeroValue23 rfl rfl (fun b4 hb4 => ?_)
  refine gop (y_assign (v := .slice _ _ _) rfl) rfl rfl rfl ?_
  refine gop_store 5 (v := .agg #[_, _]) (cs' := #[_, _]) rfl rfl Tryd.sizeOf23 rfl rfl rfl rfl (Nat.le_of_ble_eq_true rfl) rfl rfl ?_
  refine gops_nil ?_
  refine hN3 _ _ ?_
  refine gT [box b6 _, rowl _ _ _ _ _ _, fr7, box b2 _, rowl _ _ _ _ _ _, box b4 _] rfl ?_
  refine gfrom [(1, .slice _ _ _), (2, .pointer _), (3, .slice _ _ _), (4, .pointer _)] ⟨rfl, rfl, rfl, rfl, trivial⟩ fun σ => ?_
  refine gseq fun N4 hN4 => ?_
  refine greg ?_
  refine gop (y_fieldAddr_box fa23_0 rfl) rfl rfl rfl ?_
  refine gop (y_load Tryd.isAgg3 rfl (cell_box 3 rfl rfl)) rfl rfl rfl ?_
  refine gop (y_eql rfl rfl) rfl rfl rfl ?_
  refine gop (y_move (v := .bool _) rfl) rfl rfl rfl ?_
  refine gop_if (want := true) rfl rfl rfl rfl rfl rfl (fun hg18 => ?_) (fun hg18 => ?_)
  · 
    have hg18d := of_decide_eq_true hg18
    refine gop (y_bare (y_fieldAddr_box fa23_0 rfl)) rfl rfl rfl ?_
    refine gop_on rfl rfl rfl rfl hg18 ?_
    refine gop (y_bare (y_load Tryd.isAgg3 rfl (cell_box 5 rfl rfl))) rfl rfl rfl ?_
    refine gop_on rfl rfl rfl rfl hg18 ?_
    refine gop (y_bare (y_eql rfl rfl)) rfl rfl rfl ?_
    refine gop (y_pick_t (v := .bool _) rfl hg18 rfl) rfl rfl rfl ?_
    refine gop (y_move (v := .bool _) rfl) rfl rfl rfl ?_
    refine gop_if (want := true) rfl rfl rfl rfl rfl rfl (fun hg23 => ?_) (fun hg23 => ?_)
    · 
      have hg23d := of_decide_eq_true hg23
      refine gop (y_bare (y_move (v := .slice _ _ _) rfl)) rfl rfl rfl ?_
      refine gop_on rfl rfl rfl rfl hg23 ?_
      refine gop (y_bare (y_len Tryd.underlying29 rfl)) rfl rfl rfl ?_
      refine gop_on rfl rfl rfl rfl hg23 ?_
      refine gop (y_bare (y_eql rfl rfl)) rfl rfl rfl ?_
      refine gop (y_pick_t (v := .bool _) rfl hg23 rfl) rfl rfl rfl ?_
      refine gop (y_move (v := .bool _) rfl) rfl rfl rfl ?_
      refine gop_if (want := true) rfl rfl rfl rfl rfl rfl (fun hg28 => ?_) (fun hg28 => ?_)
      · 
        have hg28d := of_decide_eq_true hg28
        refine gop (y_bare (y_move (v := .slice _ _ _) rfl)) rfl rfl rfl ?_
        refine gop_on rfl rfl rfl rfl hg28 ?_
        refine gop_lit (vs := [.int _ _, .int _ _]) (cells := #[_, _]) Tryd.underlying30 Tryd.sizeOf3 Tryd.zeroValue3 rfl (by decide) (by decide) rfl rfl rfl rfl (fun b30 hb30 => ?_)
        refine gop_on rfl rfl rfl rfl hg28 ?_
        refine gop_pure (e_call (vs := [.slice _ _ _, .slice (some _) _ _]) Tryd.func20 rfl (by kernel_rfl) rfl) (fun w hM => sameInts_any w _ _ _ _ [1, 3] [1, 3] ((row_rdl (f := intCells) (fun _ => rfl) (hM.ok _ (List.mem_of_getElem? (i := 4) rfl))).mono (Nat.zero_le _)) ((Rdl.of_box 6 (f := intCells) (fun _ => rfl) hM rfl rfl).mono (Nat.zero_le _)) (by decide)) rfl rfl rfl ?_
        refine gop (y_pick_t (v := .bool _) rfl hg28 rfl) rfl rfl rfl ?_
        refine gop (y_assign (v := .bool _) rfl) rfl rfl rfl ?_
        refine gops_nil ?_
        refine hN4 _ _ ?_
        refine gT [box b6 _, rowl _ _ _ _ _ _, fr7, box b2 _, rowl _ _ _ _ _ _, box b4 _, box b30 _] rfl ?_
        refine gfrom [(0, .bool _)] ⟨rfl, trivial⟩ fun σ => ?_
        refine gret fun w1 hM => ?_
        refine ⟨_, res1 rfl (rt (v := .bool _) rfl), ?_⟩
        exact ⟨rfl, hM.low⟩
      · 
         rw [hl7] at hg28; exact absurd hg28 (by decide)
    · 
       exact absurd hg23 (by decide)
  · 
     exact absurd hg18 (by decide)
end Go.Proofs.YtijpaljdclhehaaDoor
namespace Go.Cf
open Go.RowKit
def readP : Bs → List Int × Bool
  | [] => ([], true)
  | [_] => ([], false)
  | a :: d :: r => if a = 32 ∧ 48 ≤ d.toNat ∧ d.toNat ≤ 57 then (((d.toNat : Int) - 48) :: (readP r).1, (readP r).2) else ([], false)
theorem drop_bs {s : ByteArray} {i : Nat} (h : i < s.size) : ∃ b, (bsOf s).drop i = b :: (bsOf s).drop (i + 1) ∧ byteAt s i = b.toNat := by
  have hl : i < (bsOf s).length := by rw [bsOf_len]; exact h
  exact ⟨(bsOf s)[i], List.drop_eq_getElem_cons hl, (byte_of (s := s) (List.getElem?_eq_getElem hl)).2⟩
theorem refR_next {s : ByteArray} {i : Nat} (hi : i + 1 < s.size) (h : byteAt s i = 32) (h0 : 48 ≤ byteAt s (i + 1)) (h1 : byteAt s (i + 1) ≤ 57) : readP ((bsOf s).drop i) = (((byteAt s (i + 1) : Int) - 48) :: (readP ((bsOf s).drop (i + 2))).1, (readP ((bsOf s).drop (i + 2))).2) := by
  obtain ⟨b, h2, h3⟩ := drop_bs (show i < s.size by omega)
  obtain ⟨d, h4, h5⟩ := drop_bs hi
  rw [h2, h4, readP, if_pos ⟨UInt8.toNat_inj.1 (by rw [← h3, h]; rfl), by omega, by omega⟩, h5]
structure ReadIn (s : ByteArray) (n i : Nat) (us : List Int) : Prop where
  all : (readP ((bsOf s).drop n)).1 = us ++ (readP ((bsOf s).drop i)).1
  ok : (readP ((bsOf s).drop n)).2 = (readP ((bsOf s).drop i)).2
theorem ReadIn.zero (s : ByteArray) (n : Nat) : ReadIn s n n [] := ⟨rfl, rfl⟩
theorem ReadIn.next {s : ByteArray} {n i : Nat} {us : List Int} (h : ReadIn s n i us) (hi : i + 1 < s.size) (hb : byteAt s i = 32) (h0 : 48 ≤ byteAt s (i + 1)) (h1 : byteAt s (i + 1) ≤ 57) : ReadIn s n (i + 2) (us ++ [(byteAt s (i + 1) : Int) - 48]) := by
  have e := refR_next hi hb h0 h1
  exact ⟨by rw [h.all, e]; simp, by rw [h.ok, e]⟩
structure GroupC where
  pl : List Int
  A : Option Addr
  c : Nat
abbrev gpCells (a : GroupC) : List Value := [.slice a.A a.pl.length a.c]
theorem wide_gp : Wide gpCells 1 := fun _ => ⟨rfl, by simp [gpCells, Value.oneCell']⟩
structure GrR (w : World) (lo : Nat) (a : GroupC) : Prop where
  rd : Rdl w lo 1 intCells a.A a.pl
  len : a.pl.length ≤ a.c
  max : a.c ≤ maxLen
abbrev gps (l : List GroupC) : List (List Int) := l.map GroupC.pl
theorem grR_row {w : World} {base n c : Nat} {e : TypeId} {A : Option Addr} {us : List Int} (h : (rowl intCells base e 1 (.slice A n c) us).ok w) : GrR w base ⟨us, A, c⟩ := by
  obtain ⟨A', c', he, h1, h2, _⟩ := row_form h
  simp only [Value.slice.injEq] at he
  obtain ⟨rfl, -, rfl⟩ := he
  exact ⟨row_rdl (fun _ => rfl) h, h1, h2⟩
theorem GrR.mono {w : World} {lo lo' : Nat} {a : GroupC} (h : GrR w lo a) (hl : lo' ≤ lo) : GrR w lo' a := ⟨h.rd.mono hl, h.len, h.max⟩
theorem rdl_take {α : Type} {w : World} {lo size : Nat} {f : α → List Value} {A : Option Addr} {l : List α} (h : Rdl w lo size f A l) (k : Nat) : Rdl w lo size f A (l.take k) := fun hn => by
  have hn' : 0 < l.length := by
    rw [List.length_take] at hn; omega
  obtain ⟨ad, h1, h2, h3⟩ := h hn'
  refine ⟨ad, h1, h2, fun j x hx => h3 j x ?_⟩
  rw [List.getElem?_take] at hx
  split at hx
  · exact hx
  · cases hx
def hasI (l : List Int) (x : Int) : Bool := l.any (fun y => decide (x = y))
def withinB (a b : List Int) : Bool := a.all (fun x => hasI b x)
def smallerL (a b : List Int) : Bool := decide (0 < a.length) && (decide (a.length < b.length) && !(a.any (fun u => !hasI b u)))
theorem hasI_mem {l : List Int} {x : Int} : hasI l x = true ↔ x ∈ l := by
  simp [hasI]
theorem withinB_iff {a b : List Int} : withinB a b = true ↔ ∀ x ∈ a, x ∈ b := by
  simp [withinB, hasI_mem]
theorem smallerL_iff {a b : List Int} : smallerL a b = true ↔ 0 < a.length ∧ a.length < b.length ∧ ∀ x ∈ a, x ∈ b := by
  simp only [smallerL, Bool.and_eq_true, decide_eq_true_iff, Bool.not_eq_true', List.any_eq_false, Bool.not_eq_true', Bool.not_eq_false, hasI_mem]
def gAt (G : List (List Int)) (i : Nat) : List Int := G[i]?.getD []
theorem gAt_at {G : List (List Int)} {i : Nat} (h : i < G.length) : gAt G i = G[i] := by rw [gAt, List.getElem?_eq_getElem h]; rfl
def needG (G : List (List Int)) (i : Nat) : Bool := decide (0 < (gAt G i).length) && (!((G.take i).any (fun x => decide (x = gAt G i))) && !(G.any (fun x => smallerL x (gAt G i))))
def reqTo (G : List (List Int)) (k : Nat) : List (List Int) := ((List.range k).filter (needG G)).map (gAt G)
theorem reqTo_next (G : List (List Int)) (k : Nat) : reqTo G (k + 1) = reqTo G k ++ (if needG G k = true then [gAt G k] else []) := by
  unfold reqTo
  rw [List.range_succ, List.filter_append, List.map_append]
  congr 1
  by_cases h : needG G k = true
  · rw [if_pos h]; simp [h]
  · rw [if_neg h]; simp [h]
theorem sorted_nodup {a : List Int} (h : a.Pairwise (· < ·)) : a.Nodup := h.imp (fun h1 h2 => by omega)
theorem sorted_ext : ∀ {a b : List Int}, a.Pairwise (· < ·) → b.Pairwise (· < ·) → (∀ x, x ∈ a ↔ x ∈ b) → a = b
  | [], [], _, _, _ => rfl
  | [], y :: b, _, _, h => absurd ((h y).2 (by simp)) (by simp)
  | x :: a, [], _, _, h => absurd ((h x).1 (by simp)) (by simp)
  | x :: a, y :: b, ha, hb, h => by
    obtain ⟨ha1, ha2⟩ := List.pairwise_cons.1 ha
    obtain ⟨hb1, hb2⟩ := List.pairwise_cons.1 hb
    have hxy : x = y := by
      rcases List.mem_cons.1 ((h x).1 (by simp)) with h1 | h1
      · exact h1
      · rcases List.mem_cons.1 ((h y).2 (by simp)) with h2 | h2
        · exact h2.symm
        · have := hb1 x h1; have := ha1 y h2; omega
    subst hxy
    refine congrArg _ (sorted_ext ha2 hb2 fun z => ⟨fun hz => ?_, fun hz => ?_⟩)
    · rcases List.mem_cons.1 ((h z).1 (by simp [hz])) with h1 | h1
      · have := ha1 z hz; omega
      · exact h1
    · rcases List.mem_cons.1 ((h z).2 (by simp [hz])) with h1 | h1
      · have := hb1 z hz; omega
      · exact h1
theorem sub_eq {a b : List Int} (ha : a.Pairwise (· < ·)) (hb : b.Pairwise (· < ·)) (hs : ∀ x ∈ a, x ∈ b) : a.length ≤ b.length ∧ (b.length ≤ a.length → a = b) := by
  refine ⟨pigeon a b (sorted_nodup ha) hs, fun hl => sorted_ext ha hb fun x => ⟨hs x, fun hx => ?_⟩⟩
  rcases Classical.em (x ∈ a) with h | h
  · exact h
  · have := pigeon a (b.erase x) (sorted_nodup ha) (fun y hy => (List.mem_erase_of_ne (fun e => h (by rw [← e]; exact hy))).2 (hs y hy))
    rw [List.length_erase_of_mem hx] at this
    have := List.length_pos_of_mem hx
    omega
section
variable {G : List (List Int)} (hs : ∀ g ∈ G, g.Pairwise (· < ·))
theorem gAt_mem {i : Nat} (h : i < G.length) : gAt G i ∈ G := by rw [gAt_at h]; exact List.getElem_mem h
theorem needG_iff {i : Nat} : needG G i = true ↔ 0 < (gAt G i).length ∧ (∀ x ∈ G.take i, x ≠ gAt G i) ∧ ∀ x ∈ G, smallerL x (gAt G i) = false := by
  simp only [needG, Bool.and_eq_true, decide_eq_true_iff, Bool.not_eq_true', List.any_eq_false, Bool.not_eq_true]
include hs
omit hs in
theorem req_mem {r : List Int} : r ∈ reqTo G G.length ↔ ∃ i, i < G.length ∧ needG G i = true ∧ r = gAt G i := by
  simp only [reqTo, List.mem_map, List.mem_filter, List.mem_range]
  constructor
  · rintro ⟨i, ⟨h1, h2⟩, rfl⟩; exact ⟨i, h1, h2, rfl⟩
  · rintro ⟨i, h1, h2, rfl⟩; exact ⟨i, ⟨h1, h2⟩, rfl⟩
theorem req_min {i k : Nat} (hi : i < (reqTo G G.length).length) (hk : k < (reqTo G G.length).length) (hne : k ≠ i) : withinB (reqTo G G.length)[i] (reqTo G G.length)[k] = false := by
  obtain ⟨I, hI⟩ : ∃ I, I = (List.range G.length).filter (needG G) := ⟨_, rfl⟩
  have hR : reqTo G G.length = I.map (gAt G) := by rw [hI]; rfl
  have hinc : I.Pairwise (· < ·) := by rw [hI]; exact List.Pairwise.filter _ List.pairwise_lt_range
  have hin : ∀ j ∈ I, j < G.length ∧ needG G j = true := by
    intro j hj
    rw [hI] at hj
    simpa using hj
  have hi' : i < I.length := by rw [hR, List.length_map] at hi; exact hi
  have hk' : k < I.length := by rw [hR, List.length_map] at hk; exact hk
  have e1 : (reqTo G G.length)[i] = gAt G I[i] := by simp only [hR, List.getElem_map]
  have e2 : (reqTo G G.length)[k] = gAt G I[k] := by simp only [hR, List.getElem_map]
  have hab : I[i] ≠ I[k] := by
    rcases Nat.lt_or_gt_of_ne hne with h | h
    · have := List.pairwise_iff_getElem.1 hinc k i hk' hi' h; omega
    · have := List.pairwise_iff_getElem.1 hinc i k hi' hk' h; omega
  rw [e1, e2, ← Bool.not_eq_true, withinB_iff]
  intro hw
  obtain ⟨ha, hna⟩ := hin _ (List.getElem_mem hi')
  obtain ⟨hb, hnb⟩ := hin _ (List.getElem_mem hk')
  obtain ⟨a1, a2, _⟩ := needG_iff.1 hna
  obtain ⟨_, b2, b3⟩ := needG_iff.1 hnb
  obtain ⟨hle, heq⟩ := sub_eq (hs _ (gAt_mem ha)) (hs _ (gAt_mem hb)) hw
  have h3 := b3 _ (gAt_mem ha)
  rcases Nat.lt_or_ge (gAt G I[i]).length (gAt G I[k]).length with h4 | h4
  · rw [smallerL_iff.2 ⟨a1, h4, hw⟩] at h3; cases h3
  · have h5 := heq h4
    rcases Nat.lt_or_gt_of_ne hab with h6 | h6
    · exact b2 _ (List.mem_iff_getElem.2 ⟨I[i], by rw [List.length_take]; omega, by rw [List.getElem_take, ← gAt_at ha]⟩) h5
    · exact a2 _ (List.mem_iff_getElem.2 ⟨I[k], by rw [List.length_take]; omega, by rw [List.getElem_take, ← gAt_at hb]⟩) h5.symm
end
theorem req_len (G : List (List Int)) (k : Nat) : (reqTo G k).length ≤ k := by
  unfold reqTo
  rw [List.length_map]
  exact Nat.le_trans (List.length_filter_le _ _) (by simp)
def badPath (_ : Nat) (p : ByteArray) : Int := if pathOk p = true then 0 else 12
def pathsF (ps : List ByteArray) : Fault := if (scan badPath ps).code = 0 then ⟨0, 0⟩ else ⟨12, -3 - (scan badPath ps).index⟩
def reqF (rs : List Rule) (ps : List ByteArray) : Fault := if rulesF rs ≠ ⟨0, 0⟩ then rulesF rs else if 24 < ps.length then ⟨2, -2⟩ else pathsF ps
def groupsL (rs : List Rule) (ps : List ByteArray) : List (List Int) := ps.map (findU rs)
def reqV (rs : List Rule) (ps : List ByteArray) : List (List Int) := if reqF rs ps = ⟨0, 0⟩ then reqTo (groupsL rs ps) ps.length else []
theorem pathsF_ok {ps : List ByteArray} (h : ∀ j (h : j < ps.length), pathOk ps[j] = true) : pathsF ps = ⟨0, 0⟩ := by
  have h1 : scan badPath ps = ⟨0, 0⟩ := scan_ok fun j hj => by rw [badPath, if_pos (h j hj)]
  rw [pathsF, h1]; rfl
theorem pathsF_at {ps : List ByteArray} {k : Nat} (hk : k < ps.length) (h : ∀ j (h : j < ps.length), j < k → pathOk ps[j] = true) (hb : pathOk ps[k] = false) : pathsF ps = ⟨12, -3 - k⟩ := by
  have e : badPath k ps[k] = 12 := by rw [badPath, hb]; rfl
  have h1 := scan_at (f := badPath) hk (fun j hj hjk => by rw [badPath, if_pos (h j hj hjk)]) (by rw [e]; decide)
  rw [pathsF, h1, e, if_neg (show ¬ (12 : Int) = 0 by decide)]
theorem pathsF_zero {ps : List ByteArray} (h : (pathsF ps).code = 0) : ∀ p ∈ ps, pathOk p = true := by
  unfold pathsF at h
  split at h
  · rename_i h1
    have h2 := scan_code_eq h1
    intro p hp
    obtain ⟨j, hj, rfl⟩ := List.getElem_of_mem hp
    have h3 := scan_zero.1 h2 j hj
    unfold badPath at h3
    split at h3
    · assumption
    · cases h3
  · cases h
theorem reqF_code {rs : List Rule} {ps : List ByteArray} (h : (reqF rs ps).code = 0) : reqF rs ps = ⟨0, 0⟩ ∧ rulesF rs = ⟨0, 0⟩ ∧ ps.length ≤ 24 ∧ ∀ p ∈ ps, pathOk p = true := by
  unfold reqF at h ⊢
  by_cases h1 : rulesF rs = ⟨0, 0⟩
  · rw [if_neg (fun h2 => h2 h1)] at h ⊢
    by_cases h2 : 24 < ps.length
    · rw [if_pos h2] at h; cases h
    · rw [if_neg h2] at h ⊢
      have h3 := pathsF_zero h
      exact ⟨pathsF_ok fun j hj => h3 _ (List.getElem_mem hj), h1, by omega, h3⟩
  · rw [if_pos h1] at h; exact absurd (rulesF_code h) h1
theorem groups_sorted {rs : List Rule} (h : rulesF rs = ⟨0, 0⟩) (ps : List ByteArray) : ∀ g ∈ groupsL rs ps, g.Pairwise (· < ·) := by
  intro g hg
  obtain ⟨p, _, rfl⟩ := List.mem_map.1 hg
  rcases findU_mem rs p with h1 | ⟨r, hr, h1⟩
  · rw [h1]; exact .nil
  · rw [h1]; exact (uCode_zero (ruleCode_zero (rulesF_each h r hr)).2.2).2
theorem groups_len (rs : List Rule) (ps : List ByteArray) : (groupsL rs ps).length = ps.length := by simp [groupsL]
theorem law25_plain {rs : List Rule} {ps : List ByteArray} (h : (reqF rs ps).code = 0) {i k : Nat} (hi : i < (reqV rs ps).length) (hk : k < (reqV rs ps).length) (hne : k ≠ i) : withinB (reqV rs ps)[i] (reqV rs ps)[k] = false := by
  obtain ⟨h1, h2, _⟩ := reqF_code h
  have e : reqV rs ps = reqTo (groupsL rs ps) (groupsL rs ps).length := by rw [reqV, if_pos h1, groups_len]
  simp only [e] at hi hk ⊢
  exact req_min (groups_sorted h2 ps) hi hk hne
theorem law25_full {rs : List Rule} {ps : List ByteArray} {i : Nat} (hi : i < (reqV rs ps).length) : 0 < ((reqV rs ps)[i]).length := by
  have h1 : ∀ R, R = reqV rs ps → (reqV rs ps)[i] ∈ R := fun R e => by rw [e]; exact List.getElem_mem hi
  by_cases h : reqF rs ps = ⟨0, 0⟩
  · have e : reqV rs ps = reqTo (groupsL rs ps) (groupsL rs ps).length := by rw [reqV, if_pos h, groups_len]
    obtain ⟨j, _, h2, h3⟩ := req_mem.1 (h1 _ e.symm)
    rw [h3]
    exact (needG_iff.1 h2).1
  · have e : reqV rs ps = [] := by rw [reqV, if_neg h]
    simp [e] at hi
end Go.Cf
namespace Go.Cf
open Go.RowKit
def idxP {α : Type} (p : α → Bool) (l : List α) : Int := if l.any p = true then ((l.findIdx p : Nat) : Int) else -1
theorem idxP_hit {α : Type} {p : α → Bool} {l : List α} {k : Nat} (hk : k < l.length) (h : ∀ j (hj : j < l.length), j < k → p l[j] = false) (hp : p l[k] = true) : idxP p l = (k : Int) := by
  have h1 : l.any p = true := List.any_eq_true.2 ⟨_, List.getElem_mem hk, hp⟩
  rw [idxP, if_pos h1, (List.findIdx_eq hk).2 ⟨hp, fun j hj => h j (by omega) hj⟩]
theorem idxP_none {α : Type} {p : α → Bool} {l : List α} (h : ∀ j (hj : j < l.length), p l[j] = false) : idxP p l = -1 := by
  have h1 : l.any p = false := by
    rw [List.any_eq_false]
    intro x hx
    obtain ⟨j, hj, rfl⟩ := List.getElem_of_mem hx
    simp [h j hj]
  rw [idxP, h1, if_neg (by simp)]
theorem idxP_any {α : Type} (p : α → Bool) (l : List α) : decide ((0 : Int) ≤ idxP p l) = l.any p := by
  unfold idxP
  cases l.any p with
  | true => rw [if_pos rfl]; exact decide_eq_true (by omega)
  | false => rw [if_neg (by simp)]; rfl
theorem needG_gs {gs : List GroupC} {k : Nat} (hk : k < gs.length) : needG (gps gs) k = (decide (0 < gs[k].pl.length) && (!((gs.take k).any (fun a => decide (a.pl = gs[k].pl))) && !(gs.any (fun a => smallerL a.pl gs[k].pl)))) := by
  have e : gAt (gps gs) k = gs[k].pl := by rw [gAt_at (by simpa using hk)]; simp
  unfold needG
  rw [e, List.any_map, ← List.map_take, List.any_map]
  rfl
theorem need_yes {gs : List GroupC} {k : Nat} (hk : k < gs.length) (h1 : 0 < gs[k].pl.length) (h2 : (gs.take k).any (fun a => decide (a.pl = gs[k].pl)) = false) (h3 : gs.any (fun a => smallerL a.pl gs[k].pl) = false) : needG (gps gs) k = true := by
  rw [needG_gs hk, h2, h3, decide_eq_true h1]; rfl
theorem need_no1 {gs : List GroupC} {k : Nat} (hk : k < gs.length) (h1 : ¬ 0 < gs[k].pl.length) : needG (gps gs) k = false := by
  rw [needG_gs hk, decide_eq_false h1]; rfl
theorem need_no2 {gs : List GroupC} {k : Nat} (hk : k < gs.length) (h2 : (gs.take k).any (fun a => decide (a.pl = gs[k].pl)) = true) : needG (gps gs) k = false := by
  rw [needG_gs hk, h2]; simp
theorem need_no3 {gs : List GroupC} {k : Nat} (hk : k < gs.length) (h3 : gs.any (fun a => smallerL a.pl gs[k].pl) = true) : needG (gps gs) k = false := by
  rw [needG_gs hk, h3]; simp
theorem req_gs_yes {gs og : List GroupC} {k : Nat} (hk : k < gs.length) (ho : gps og = reqTo (gps gs) k) (hn : needG (gps gs) k = true) : gps (og ++ [gs[k]]) = reqTo (gps gs) (k + 1) := by
  have e : gAt (gps gs) k = gs[k].pl := by rw [gAt_at (by simpa using hk)]; simp
  show List.map _ _ = _
  rw [List.map_append, reqTo_next, hn, if_pos rfl, ← ho, e]; rfl
theorem req_gs_no {gs og : List GroupC} {k : Nat} (ho : gps og = reqTo (gps gs) k) (hn : needG (gps gs) k = false) : gps og = reqTo (gps gs) (k + 1) := by
  rw [reqTo_next, hn, if_neg (by simp), ← ho, List.append_nil]
theorem hasI_take {b : List Int} {j : Nat} {x : Int} (h : j < b.length) : hasI (b.take (j + 1)) x = (hasI (b.take j) x || decide (x = b[j])) := by
  rw [List.take_succ_eq_append_getElem h, hasI, List.any_append]; simp [hasI]
theorem withinB_no {g U : List Int} {k : Nat} (h : k < g.length) (e : hasI U g[k] = false) : withinB g U = false := by
  unfold withinB
  rw [List.all_eq_false]
  exact ⟨_, List.getElem_mem h, by simp [e]⟩
theorem withinB_yes {g U : List Int} (h : ∀ k (hk : k < g.length), hasI U g[k] = true) : withinB g U = true := by
  unfold withinB
  rw [List.all_eq_true]
  intro x hx
  obtain ⟨j, hj, rfl⟩ := List.getElem_of_mem hx
  exact h j hj
end Go.Cf
namespace Go.Cf
open Go.RowKit
theorem Mem.cell {w0 w : World} {T : List Reg} (hM : Mem w0 T w) (i : Nat) {b off : Nat} {cs : Array Value} {e : TypeId} {fz : Nat × Nat} {v : Value} (hi : T[i]? = some (box b (.cells cs e fz))) (h : cs[off]? = some v) : w.cell? ⟨b, off, none⟩ = some v := cell_box i hi h w hM
end Go.Cf
namespace Go.Cf
theorem gps_at {og : List GroupC} {R : List (List Int)} (h : gps og = R) {i : Nat} (hi : i < og.length) : ∃ hi' : i < R.length, R[i] = og[i].pl := by
  subst h
  exact ⟨by simpa using hi, by simp⟩
theorem law25_at {rs : List Rule} {ps : List ByteArray} {og : List GroupC} (h : gps og = reqV rs ps) (h0 : (reqF rs ps).code = 0) {i k : Nat} (hi : i < og.length) (hk : k < og.length) (hne : k ≠ i) : withinB og[i].pl og[k].pl = false := by
  obtain ⟨a1, a2⟩ := gps_at h hi
  obtain ⟨b1, b2⟩ := gps_at h hk
  rw [← a2, ← b2]
  exact law25_plain h0 a1 b1 hne
theorem law25_pos {rs : List Rule} {ps : List ByteArray} {og : List GroupC} (h : gps og = reqV rs ps) {i : Nat} (hi : i < og.length) : 0 < og[i].pl.length := by
  obtain ⟨a1, a2⟩ := gps_at h hi
  rw [← a2]
  exact law25_full a1
end Go.Cf
namespace Go.Cf
open Go.RowKit
def Reading (text : List ByteArray) (k : Nat) (p : Fault) (l : List Rule) : Prop :=
  (p = ⟨0, 0⟩ ∧ linesF text = ⟨0, 0⟩ ∧ (∀ j (h : j < text.length), j < k → badL text[j] = 0) ∧ l = readL (text.take k)) ∨ (p.code ≠ 0 ∧ p = fileF text)
section
variable {text : List ByteArray} {k : Nat} {p : Fault} {l : List Rule}
theorem Reading.zero (text : List ByteArray) : Reading text 0 (linesF text) [] := by
  by_cases h : linesF text = ⟨0, 0⟩
  · exact .inl ⟨h, h, fun _ _ h => absurd h (by omega), rfl⟩
  · exact .inr ⟨fun h1 => h (linesF_code h1), by rw [fileF, if_pos h]⟩
theorem Reading.good (h : Reading text k p l) (hp : p.code = 0) : p = ⟨0, 0⟩ ∧ linesF text = ⟨0, 0⟩ ∧ (∀ j (h : j < text.length), j < k → badL text[j] = 0) ∧ l = readL (text.take k) := by
  rcases h with h | h
  · exact h
  · exact absurd hp h.1
theorem Reading.skip (h : Reading text k p l) (hp : p.code = 0) (hk : k < text.length) (hs : skipL text[k] = true) : Reading text (k + 1) p l := by
  obtain ⟨h1, h2, h3, h4⟩ := h.good hp
  refine .inl ⟨h1, h2, fun j hj hjk => ?_, by rw [readL_take hk, hs]; simpa using h4⟩
  rcases Nat.lt_succ_iff_lt_or_eq.1 hjk with h5 | rfl
  · exact h3 j hj h5
  · rw [badL, if_pos hs]
theorem Reading.done2 (h : Reading text k p l) (hst : ¬ (k < text.length ∧ p.code = 0)) (hp : p.code = 0) (hl : ¬ 20 < l.length) : fileF text = p ∧ l = fileV text := by
  obtain ⟨h1, h2, h3, h4⟩ := h.good hp
  have hk : ¬ k < text.length := fun h5 => hst ⟨h5, hp⟩
  have hsc : scan (fun _ s => badL s) text = ⟨0, 0⟩ := scan_ok fun j hj => h3 j hj (by omega)
  rw [List.take_of_length_le (by omega)] at h4
  have hF : fileF text = ⟨0, 0⟩ := by rw [fileF, if_neg (fun h5 => h5 h2), hsc, if_neg (fun h5 => h5 rfl), if_neg (by rw [← h4]; exact hl)]
  exact ⟨hF.trans h1.symm, by rw [fileV, if_pos hF, h4]⟩
theorem Reading.done3 (h : Reading text k p l) (hp : p.code ≠ 0) : fileF text = p := by
  rcases h with h | h
  · exact absurd (by rw [h.1]) hp
  · exact h.2.symm
theorem Reading.done (h : Reading text k p l) (hst : ¬ (k < text.length ∧ p.code = 0)) (hl : ¬ (p.code = 0 ∧ 20 < l.length)) : fileF text = p ∧ (p.code = 0 → l = fileV text) := by
  by_cases hp : p.code = 0
  · have := h.done2 hst hp (fun h1 => hl ⟨hp, h1⟩)
    exact ⟨this.1, fun _ => this.2⟩
  · exact ⟨h.done3 hp, fun h1 => absurd h1 hp⟩
end
def capF (ps : List ByteArray) : Fault := if 24 < ps.length then ⟨2, -2⟩ else ⟨0, 0⟩
def Checking (rs : List Rule) (ps : List ByteArray) (k : Nat) (q : Fault) : Prop :=
  (q = ⟨0, 0⟩ ∧ ps.length ≤ 24 ∧ ∀ j (h : j < ps.length), j < k → pathOk ps[j] = true) ∨ (q.code ≠ 0 ∧ q = reqF rs ps)
section
variable {rs : List Rule} {ps : List ByteArray} {k : Nat} {q : Fault}
theorem Checking.zero (h : rulesF rs = ⟨0, 0⟩) : Checking rs ps 0 (capF ps) := by
  unfold capF
  split
  · rename_i h1
    exact .inr ⟨by decide, by rw [reqF, if_neg (fun h2 => h2 h), if_pos h1]⟩
  · exact .inl ⟨rfl, by omega, fun _ _ h => absurd h (by omega)⟩
theorem Checking.good (h : Checking rs ps k q) (hq : q.code = 0) : q = ⟨0, 0⟩ ∧ ps.length ≤ 24 ∧ ∀ j (h : j < ps.length), j < k → pathOk ps[j] = true := by
  rcases h with h | h
  · exact h
  · exact absurd hq h.1
theorem Checking.ok (h : Checking rs ps k q) (hq : q.code = 0) (hk : k < ps.length) (hp : pathOk ps[k] = true) : Checking rs ps (k + 1) q := by
  obtain ⟨h1, h2, h3⟩ := h.good hq
  refine .inl ⟨h1, h2, fun j hj hjk => ?_⟩
  rcases Nat.lt_succ_iff_lt_or_eq.1 hjk with h5 | rfl
  · exact h3 j hj h5
  · exact hp
theorem Checking.stop (h : Checking rs ps k q) (hr : rulesF rs = ⟨0, 0⟩) (hst : ¬ (k < ps.length ∧ q.code = 0)) : reqF rs ps = q := by
  rcases h with h | h
  · obtain ⟨h1, h2, h3⟩ := h
    have hk : ¬ k < ps.length := fun h6 => hst ⟨h6, by rw [h1]⟩
    rw [reqF, if_neg (fun h5 => h5 hr), if_neg (by omega), pathsF_ok (fun j hj => h3 j hj (by omega)), h1]
  · exact h.2.symm
end
end Go.Cf
namespace Go.Proofs.YtijpaljdclhehaaDoor
open Go.RowKit Go.Cf
set_option maxRecDepth 10000
set_option maxHeartbeats 1000000 in
theorem indexI_any (w : World) (A : Option Addr) (c : Nat) (l : List Int) (hl : Rdl w 0 1 intCells A l) (hn : l.length ≤ maxLen) (x : Int) : Calls Tryd.prog 94 #[.slice A l.length c, .int .i64 x] w fun e w' => e = .returned (.int .i64 (idxP (fun y => decide (x = y)) l)) ∧ Below w.heap.size w w' := by
  unfold maxLen at hn
  refine gcalls Tryd.func94 rfl Tryd.ntmps94 (Nat.le_of_ble_eq_true rfl) ?_
  refine gfrom [(0, .slice _ _ _), (1, .int _ _)] ⟨rfl, rfl, trivial⟩ fun σ => ?_
  refine gseq fun N1 hN1 => ?_
  refine greg ?_
  refine gop (y_assign (v := .int _ _) rfl) rfl rfl rfl ?_
  refine gops_nil ?_
  refine hN1 _ _ ?_
  refine gfrom [(0, .slice _ _ _), (1, .int _ _)] ⟨rfl, rfl, trivial⟩ fun σ => ?_
  refine gseq fun N2 hN2 => ?_
  refine gseq fun N3 hN3 => ?_
  refine greg ?_
  refine gop (y_move (v := .slice _ _ _) rfl) rfl rfl rfl ?_
  refine gop (y_len Tryd.underlying30 rfl) rfl rfl rfl ?_
  refine gop (y_move (v := .int _ _) rfl) rfl rfl rfl ?_
  refine gops_nil ?_
  refine hN3 _ _ ?_
  refine gfrom [(0, .slice _ _ _), (1, .int _ _), (7, .int _ _), (8, .int _ _)] ⟨rfl, rfl, rfl, rfl, trivial⟩ fun σ => ?_
  refine gblock ?_
  refine gfrom2 [(8, .int _ _)] [(0, .slice _ _ _), (1, .int _ _), (7, .int _ _)] ⟨rfl, trivial⟩ ⟨rfl, rfl, rfl, trivial⟩ fun σ => ?_
  refine gloop2 (G := Nat) (fun k => k ≤ l.length ∧ ∀ j (h : j < l.length), j < k → decide (x = l[j]) = false) (fun k => l.length - k) (fun k => [(8, .int .i64 (k : Int))]) (fun k => []) (0) ?h0 ⟨rfl, trivial⟩ ⟨rfl, rfl, rfl, trivial⟩ rfl ?round
  case h0 => exact ⟨Nat.zero_le _, fun _ _ h => absurd h (by omega)⟩
  case round =>
    intro k hφ σ
    obtain ⟨hk, hz⟩ := hφ
    refine gseq fun N4 hN4 => ?_
    refine greg ?_
    refine gop (y_lss rfl rfl) rfl rfl rfl ?_
    refine gops_nil ?_
    refine hN4 _ _ ?_
    refine gfrom [(0, .slice _ _ _), (1, .int _ _), (7, .int _ _), (8, .int _ _), (9, .bool _)] ⟨rfl, rfl, rfl, rfl, rfl, trivial⟩ fun σ => ?_
    refine gseq fun N5 hN5 => ?_
    refine gcond (b := _) rfl (fun hc9 => ?_) (fun hc9 => ?_)
    · 
      replace hc9 := of_decide_eq_true hc9
      have hk1 : k < l.length := by omega
      obtain ⟨ad, rfl, -, hca⟩ := hl.at_ hk1
      refine gskip ?_
      refine hN5 _ _ ?_
      refine gfrom [(0, .slice _ _ _), (1, .int _ _), (7, .int _ _), (8, .int _ _)] ⟨rfl, rfl, rfl, rfl, trivial⟩ fun σ => ?_
      refine gseq fun N6 hN6 => ?_
      refine gblock ?_
      refine gseq fun N7 hN7 => ?_
      refine greg ?_
      refine gop (y_move (v := .int _ _) rfl) rfl rfl rfl ?_
      refine gop (y_assign (v := .int _ _) rfl) rfl rfl rfl ?_
      refine gops_nil ?_
      refine hN7 _ _ ?_
      refine gfrom [(0, .slice _ _ _), (1, .int _ _), (5, .int _ _), (7, .int _ _), (8, .int _ _)] ⟨rfl, rfl, rfl, rfl, rfl, trivial⟩ fun σ => ?_
      refine gseq fun N8 hN8 => ?_
      refine greg ?_
      refine gop (y_move (v := .int _ _) rfl) rfl rfl rfl ?_
      refine gop (y_move (v := .slice _ _ _) rfl) rfl rfl rfl ?_
      refine gop (y_move (v := .int _ _) rfl) rfl rfl rfl ?_
      refine gop (y_indexAddr (m := k) Tryd.underlying30 Tryd.sizeOf3 rfl rfl (by omega) (by omega) (by omega)) rfl rfl rfl ?_
      refine gop (y_load Tryd.isAgg3 rfl (cell_base (hca 0 _ rfl))) rfl rfl rfl ?_
      refine gop (y_eql rfl rfl) rfl rfl rfl ?_
      refine gops_nil ?_
      refine hN8 _ _ ?_
      refine gfrom [(0, .slice _ _ _), (1, .int _ _), (5, .int _ _), (7, .int _ _), (8, .int _ _), (16, .bool _)] ⟨rfl, rfl, rfl, rfl, rfl, rfl, trivial⟩ fun σ => ?_
      refine gcond (b := _) rfl (fun hc16 => ?_) (fun hc16 => ?_)
      · 
        replace hc16 := of_decide_eq_true hc16
        refine gseq fun N9 hN9 => ?_
        refine greg ?_
        refine gop (y_move (v := .int _ _) rfl) rfl rfl rfl ?_
        refine gop (y_assign (v := .int _ _) rfl) rfl rfl rfl ?_
        refine gops_nil ?_
        refine hN9 _ _ ?_
        refine gfrom [(4, .int _ _)] ⟨rfl, trivial⟩ fun σ => ?_
        refine gret fun w1 hM => ?_
        refine ⟨_, res1 rfl (rt (v := .int _ _) rfl), ?_⟩
        exact ⟨by rw [idxP_hit (p := fun y => decide (x = y)) hk1 hz (decide_eq_true hc16)], hM.low⟩
      · 
        replace hc16 := of_decide_eq_false hc16
        refine gskip ?_
        refine hN6 _ _ ?_
        refine gfrom [(0, .slice _ _ _), (1, .int _ _), (7, .int _ _), (8, .int _ _)] ⟨rfl, rfl, rfl, rfl, trivial⟩ fun σ => ?_
        refine greg ?_
        refine gop (y_add rfl rfl ⟨by omega, by omega⟩) rfl rfl rfl ?_
        refine gop (y_move (v := .int _ _) rfl) rfl rfl rfl ?_
        refine gops_nil ?_
        refine gnext2 (k + 1) (by omega) (⟨by omega, fun j h hj => by rcases Nat.lt_succ_iff_lt_or_eq.1 hj with h1 | rfl; exact hz j h h1; exact decide_eq_false hc16⟩) ⟨rfl, trivial⟩ ⟨rfl, rfl, rfl, trivial⟩ ⟨_, rfl⟩
    · 
      replace hc9 := of_decide_eq_false hc9
      have hI := idxP_none (p := fun y => decide (x = y)) (l := l) (fun j hj => hz j hj (by omega))
      refine gexit ?_
      refine hN2 _ _ ?_
      refine gfrom [] trivial fun σ => ?_
      refine gseq fun N10 hN10 => ?_
      refine greg ?_
      refine gop (y_assign (v := .int _ _) rfl) rfl rfl rfl ?_
      refine gops_nil ?_
      refine hN10 _ _ ?_
      refine gfrom [(4, .int _ _)] ⟨rfl, trivial⟩ fun σ => ?_
      refine gret fun w1 hM => ?_
      refine ⟨_, res1 rfl (rt (v := .int _ _) rfl), ?_⟩
      exact ⟨by rw [hI], hM.low⟩
set_option maxHeartbeats 1000000 in
theorem containsI_any (w : World) (A : Option Addr) (c : Nat) (l : List Int) (hl : Rdl w 0 1 intCells A l) (hn : l.length ≤ maxLen) (x : Int) : Calls Tryd.prog 76 #[.slice A l.length c, .int .i64 x] w fun e w' => e = .returned (.bool (hasI l x)) ∧ Below w.heap.size w w' := by
  refine gcalls Tryd.func76 rfl Tryd.ntmps76 (Nat.le_of_ble_eq_true rfl) ?_
  refine gfrom [(0, .slice _ _ _), (1, .int _ _)] ⟨rfl, rfl, trivial⟩ fun σ => ?_
  refine gseq fun N1 hN1 => ?_
  refine greg ?_
  refine gop (y_assign (v := .bool _) rfl) rfl rfl rfl ?_
  refine gops_nil ?_
  refine hN1 _ _ ?_
  refine gfrom [(0, .slice _ _ _), (1, .int _ _)] ⟨rfl, rfl, trivial⟩ fun σ => ?_
  refine gseq fun N2 hN2 => ?_
  refine greg ?_
  refine gop (y_move (v := .slice _ _ _) rfl) rfl rfl rfl ?_
  refine gop (y_move (v := .int _ _) rfl) rfl rfl rfl ?_
  refine gop_pure (e_call (vs := [.slice _ _ _, .int _ _]) Tryd.func94 rfl (by kernel_rfl) rfl) (fun w hM => indexI_any w A c l (hl.base hM) hn x) rfl rfl rfl ?_
  refine gop (y_geq rfl rfl) rfl rfl rfl ?_
  refine gop (y_assign (v := .bool _) rfl) rfl rfl rfl ?_
  refine gops_nil ?_
  refine hN2 _ _ ?_
  refine gfrom [(4, .bool _)] ⟨rfl, trivial⟩ fun σ => ?_
  refine gret fun w1 hM => ?_
  refine ⟨_, res1 rfl (rt (v := .bool _) rfl), ?_⟩
  exact ⟨by rw [idxP_any]; rfl, hM.low⟩
set_option maxHeartbeats 1000000 in
theorem smaller1_any (w : World) (u : Int) (bg : Nat) (A : Option Addr) (c : Nat) (l : List Int) (hbox : w.cell? ⟨bg, 0, none⟩ = some (.slice A l.length c)) (hl : Rdl w 0 1 intCells A l) (hn : l.length ≤ maxLen) : Calls Tryd.prog 75 #[.int .i64 u, .pointer (some ⟨bg, 0, none⟩)] w fun e w' => e = .returned (.bool (!hasI l u)) ∧ Below w.heap.size w w' := by
  refine gcalls Tryd.func75 rfl Tryd.ntmps75 (Nat.le_of_ble_eq_true rfl) ?_
  refine gfrom [(0, .int _ _), (1, .pointer (some ⟨bg, 0, none⟩))] ⟨rfl, rfl, trivial⟩ fun σ => ?_
  refine gseq fun N1 hN1 => ?_
  refine greg ?_
  refine gop (y_assign (v := .bool _) rfl) rfl rfl rfl ?_
  refine gops_nil ?_
  refine hN1 _ _ ?_
  refine gfrom [(0, .int _ _), (1, .pointer (some ⟨bg, 0, none⟩))] ⟨rfl, rfl, trivial⟩ fun σ => ?_
  refine gseq fun N2 hN2 => ?_
  refine greg ?_
  refine gop (y_load (v := .slice A l.length c) Tryd.isAgg30 rfl (cell_base hbox)) rfl rfl rfl ?_
  refine gop (y_move (v := .int _ _) rfl) rfl rfl rfl ?_
  refine gop_pure (e_call (vs := [.slice _ _ _, .int _ _]) Tryd.func76 rfl (by kernel_rfl) rfl) (fun w hM => containsI_any w A c l (hl.base hM) hn u) rfl rfl rfl ?_
  refine gop (y_not rfl) rfl rfl rfl ?_
  refine gop (y_assign (v := .bool _) rfl) rfl rfl rfl ?_
  refine gops_nil ?_
  refine hN2 _ _ ?_
  refine gfrom [(3, .bool _)] ⟨rfl, trivial⟩ fun σ => ?_
  refine gret fun w1 hM => ?_
  refine ⟨_, res1 rfl (rt (v := .bool _) rfl), ?_⟩
  exact ⟨rfl, hM.low⟩
set_option maxHeartbeats 1000000 in
theorem idxFuncI_any (w : World) (A : Option Addr) (c : Nat) (l : List Int) (hl : Rdl w 0 1 intCells A l) (hn : l.length ≤ maxLen) (gf : FuncId) (fn : Func) (hgf : Tryd.prog.funcs[gf]? = some fn) (hgb : fn.body.isSome = true) (hgn : (fn.name == "runtime.NumGoroutine") = false) (cs : List Value) (p : Int → Bool) (hcl : ∀ k (h : k < l.length) w1, Below w.heap.size w w1 → Calls Tryd.prog gf (([.int .i64 l[k]] : List Value) ++ cs).toArray w1 (fun e w2 => e = .returned (.bool (p l[k])) ∧ Below w1.heap.size w1 w2)) : Calls Tryd.prog 93 #[.slice A l.length c, .func (.func gf) #[] cs.toArray] w fun e w' => e = .returned (.int .i64 (idxP p l)) ∧ Below w.heap.size w w' := by
  unfold maxLen at hn
  refine gcalls Tryd.func93 rfl Tryd.ntmps93 (Nat.le_of_ble_eq_true rfl) ?_
  refine gfrom [(0, .slice _ _ _), (1, .func (.func gf) #[] cs.toArray)] ⟨rfl, rfl, trivial⟩ fun σ => ?_
  refine gseq fun N1 hN1 => ?_
  refine greg ?_
  refine gop (y_assign (v := .int _ _) rfl) rfl rfl rfl ?_
  refine gops_nil ?_
  refine hN1 _ _ ?_
  refine gfrom [(0, .slice _ _ _), (1, .func (.func gf) #[] cs.toArray)] ⟨rfl, rfl, trivial⟩ fun σ => ?_
  refine gseq fun N2 hN2 => ?_
  refine gseq fun N3 hN3 => ?_
  refine greg ?_
  refine gop (y_move (v := .slice _ _ _) rfl) rfl rfl rfl ?_
  refine gop (y_len Tryd.underlying30 rfl) rfl rfl rfl ?_
  refine gop (y_move (v := .int _ _) rfl) rfl rfl rfl ?_
  refine gops_nil ?_
  refine hN3 _ _ ?_
  refine gfrom [(0, .slice _ _ _), (1, .func (.func gf) #[] cs.toArray), (7, .int _ _), (8, .int _ _)] ⟨rfl, rfl, rfl, rfl, trivial⟩ fun σ => ?_
  refine gblock ?_
  refine gfrom2 [(8, .int _ _)] [(0, .slice _ _ _), (1, .func (.func gf) #[] cs.toArray), (7, .int _ _)] ⟨rfl, trivial⟩ ⟨rfl, rfl, rfl, trivial⟩ fun σ => ?_
  refine gloop2 (G := Nat) (fun k => k ≤ l.length ∧ ∀ j (h : j < l.length), j < k → p l[j] = false) (fun k => l.length - k) (fun k => [(8, .int .i64 (k : Int))]) (fun k => []) (0) ?h0 ⟨rfl, trivial⟩ ⟨rfl, rfl, rfl, trivial⟩ rfl ?round
  case h0 => exact ⟨Nat.zero_le _, fun _ _ h => absurd h (by omega)⟩
  case round =>
    intro k hφ σ
    obtain ⟨hk, hz⟩ := hφ
    refine gseq fun N4 hN4 => ?_
    refine greg ?_
    refine gop (y_lss rfl rfl) rfl rfl rfl ?_
    refine gops_nil ?_
    refine hN4 _ _ ?_
    refine gfrom [(0, .slice _ _ _), (1, .func (.func gf) #[] cs.toArray), (7, .int _ _), (8, .int _ _), (9, .bool _)] ⟨rfl, rfl, rfl, rfl, rfl, trivial⟩ fun σ => ?_
    refine gseq fun N5 hN5 => ?_
    refine gcond (b := _) rfl (fun hc9 => ?_) (fun hc9 => ?_)
    · 
      replace hc9 := of_decide_eq_true hc9
      have hk1 : k < l.length := by omega
      obtain ⟨ad, rfl, -, hca⟩ := hl.at_ hk1
      refine gskip ?_
      refine hN5 _ _ ?_
      refine gfrom [(0, .slice _ _ _), (1, .func (.func gf) #[] cs.toArray), (7, .int _ _), (8, .int _ _)] ⟨rfl, rfl, rfl, rfl, trivial⟩ fun σ => ?_
      refine gseq fun N6 hN6 => ?_
      refine gblock ?_
      refine gseq fun N7 hN7 => ?_
      refine greg ?_
      refine gop (y_move (v := .int _ _) rfl) rfl rfl rfl ?_
      refine gop (y_assign (v := .int _ _) rfl) rfl rfl rfl ?_
      refine gops_nil ?_
      refine hN7 _ _ ?_
      refine gfrom [(0, .slice _ _ _), (1, .func (.func gf) #[] cs.toArray), (5, .int _ _), (7, .int _ _), (8, .int _ _)] ⟨rfl, rfl, rfl, rfl, rfl, trivial⟩ fun σ => ?_
      refine gseq fun N8 hN8 => ?_
      refine greg ?_
      refine gop (y_move (v := .func (.func gf) #[] cs.toArray) rfl) rfl rfl rfl ?_
      refine gop (y_move (v := .slice _ _ _) rfl) rfl rfl rfl ?_
      refine gop (y_move (v := .int _ _) rfl) rfl rfl rfl ?_
      refine gop (y_indexAddr (m := k) Tryd.underlying30 Tryd.sizeOf3 rfl rfl (by omega) (by omega) (by omega)) rfl rfl rfl ?_
      refine gop (y_load Tryd.isAgg3 rfl (cell_base (hca 0 _ rfl))) rfl rfl rfl ?_
      refine gop_pure (e_callv (vs := [.int _ _]) (cs := cs) rfl hgf hgb hgn rfl) (fun w hM => hcl k hk1 w hM.low) rfl rfl rfl ?_
      refine gops_nil ?_
      refine hN8 _ _ ?_
      refine gfrom [(0, .slice _ _ _), (1, .func (.func gf) #[] cs.toArray), (5, .int _ _), (7, .int _ _), (8, .int _ _), (16, .bool _)] ⟨rfl, rfl, rfl, rfl, rfl, rfl, trivial⟩ fun σ => ?_
      refine gcond (b := _) rfl (fun hc16 => ?_) (fun hc16 => ?_)
      · 
        refine gseq fun N9 hN9 => ?_
        refine greg ?_
        refine gop (y_move (v := .int _ _) rfl) rfl rfl rfl ?_
        refine gop (y_assign (v := .int _ _) rfl) rfl rfl rfl ?_
        refine gops_nil ?_
        refine hN9 _ _ ?_
        refine gfrom [(4, .int _ _)] ⟨rfl, trivial⟩ fun σ => ?_
        refine gret fun w1 hM => ?_
        refine ⟨_, res1 rfl (rt (v := .int _ _) rfl), ?_⟩
        exact ⟨by rw [idxP_hit (p := p) hk1 hz hc16], hM.low⟩
      · 
        refine gskip ?_
        refine hN6 _ _ ?_
        refine gfrom [(0, .slice _ _ _), (1, .func (.func gf) #[] cs.toArray), (7, .int _ _), (8, .int _ _)] ⟨rfl, rfl, rfl, rfl, trivial⟩ fun σ => ?_
        refine greg ?_
        refine gop (y_add rfl rfl ⟨by omega, by omega⟩) rfl rfl rfl ?_
        refine gop (y_move (v := .int _ _) rfl) rfl rfl rfl ?_
        refine gops_nil ?_
        refine gnext2 (k + 1) (by omega) (⟨by omega, fun j h hj => by rcases Nat.lt_succ_iff_lt_or_eq.1 hj with h1 | rfl; exact hz j h h1; exact hc16⟩) ⟨rfl, trivial⟩ ⟨rfl, rfl, rfl, trivial⟩ ⟨_, rfl⟩
    · 
      replace hc9 := of_decide_eq_false hc9
      have hI := idxP_none (p := p) (l := l) (fun j hj => hz j hj (by omega))
      refine gexit ?_
      refine hN2 _ _ ?_
      refine gfrom [] trivial fun σ => ?_
      refine gseq fun N10 hN10 => ?_
      refine greg ?_
      refine gop (y_assign (v := .int _ _) rfl) rfl rfl rfl ?_
      refine gops_nil ?_
      refine hN10 _ _ ?_
      refine gfrom [(4, .int _ _)] ⟨rfl, trivial⟩ fun σ => ?_
      refine gret fun w1 hM => ?_
      refine ⟨_, res1 rfl (rt (v := .int _ _) rfl), ?_⟩
      exact ⟨by rw [hI], hM.low⟩
set_option maxHeartbeats 1000000 in
theorem contFuncI_any (w : World) (A : Option Addr) (c : Nat) (l : List Int) (hl : Rdl w 0 1 intCells A l) (hn : l.length ≤ maxLen) (gf : FuncId) (fn : Func) (hgf : Tryd.prog.funcs[gf]? = some fn) (hgb : fn.body.isSome = true) (hgn : (fn.name == "runtime.NumGoroutine") = false) (cs : List Value) (p : Int → Bool) (hcl : ∀ k (h : k < l.length) w1, Below w.heap.size w w1 → Calls Tryd.prog gf (([.int .i64 l[k]] : List Value) ++ cs).toArray w1 (fun e w2 => e = .returned (.bool (p l[k])) ∧ Below w1.heap.size w1 w2)) : Calls Tryd.prog 74 #[.slice A l.length c, .func (.func gf) #[] cs.toArray] w fun e w' => e = .returned (.bool (l.any p)) ∧ Below w.heap.size w w' := by
  refine gcalls Tryd.func74 rfl Tryd.ntmps74 (Nat.le_of_ble_eq_true rfl) ?_
  refine gfrom [(0, .slice _ _ _), (1, .func (.func gf) #[] cs.toArray)] ⟨rfl, rfl, trivial⟩ fun σ => ?_
  refine gseq fun N1 hN1 => ?_
  refine greg ?_
  refine gop (y_assign (v := .bool _) rfl) rfl rfl rfl ?_
  refine gops_nil ?_
  refine hN1 _ _ ?_
  refine gfrom [(0, .slice _ _ _), (1, .func (.func gf) #[] cs.toArray)] ⟨rfl, rfl, trivial⟩ fun σ => ?_
  refine gseq fun N2 hN2 => ?_
  refine greg ?_
  refine gop (y_move (v := .slice _ _ _) rfl) rfl rfl rfl ?_
  refine gop (y_move (v := .func (.func gf) #[] cs.toArray) rfl) rfl rfl rfl ?_
  refine gop_pure (e_call (vs := [.slice _ _ _, .func (.func gf) #[] cs.toArray]) Tryd.func93 rfl (by kernel_rfl) rfl) (fun w hM => idxFuncI_any w A c l (hl.base hM) hn gf fn hgf hgb hgn cs p (fun k hk w1 hb => hcl k hk w1 (hM.call hb).low)) rfl rfl rfl ?_
  refine gop (y_geq rfl rfl) rfl rfl rfl ?_
  refine gop (y_assign (v := .bool _) rfl) rfl rfl rfl ?_
  refine gops_nil ?_
  refine hN2 _ _ ?_
  refine gfrom [(4, .bool _)] ⟨rfl, trivial⟩ fun σ => ?_
  refine gret fun w1 hM => ?_
  refine ⟨_, res1 rfl (rt (v := .bool _) rfl), ?_⟩
  exact ⟨by rw [idxP_any], hM.low⟩
set_option maxHeartbeats 1000000 in
theorem equalI_any (w : World) (A : Option Addr) (c : Nat) (a : List Int) (ha : Rdl w 0 1 intCells A a) (han : a.length ≤ maxLen) (B : Option Addr) (d : Nat) (b : List Int) (hb : Rdl w 0 1 intCells B b) (hbn : b.length ≤ maxLen) : Calls Tryd.prog 52 #[.slice A a.length c, .slice B b.length d] w fun e w' => e = .returned (.bool (decide (a = b))) ∧ Below w.heap.size w w' := by
  unfold maxLen at han hbn
  refine gcalls Tryd.func52 rfl Tryd.ntmps52 (Nat.le_of_ble_eq_true rfl) ?_
  refine gfrom [(0, .slice _ _ _), (1, .slice _ _ _)] ⟨rfl, rfl, trivial⟩ fun σ => ?_
  refine gseq fun N1 hN1 => ?_
  refine greg ?_
  refine gop (y_assign (v := .bool _) rfl) rfl rfl rfl ?_
  refine gops_nil ?_
  refine hN1 _ _ ?_
  refine gfrom [(0, .slice _ _ _), (1, .slice _ _ _)] ⟨rfl, rfl, trivial⟩ fun σ => ?_
  refine gseq fun N2 hN2 => ?_
  refine gseq fun N3 hN3 => ?_
  refine greg ?_
  refine gop (y_move (v := .slice _ _ _) rfl) rfl rfl rfl ?_
  refine gop (y_len Tryd.underlying30 rfl) rfl rfl rfl ?_
  refine gop (y_move (v := .slice _ _ _) rfl) rfl rfl rfl ?_
  refine gop (y_len Tryd.underlying30 rfl) rfl rfl rfl ?_
  refine gop (y_neq rfl rfl) rfl rfl rfl ?_
  refine gops_nil ?_
  refine hN3 _ _ ?_
  refine gfrom [(0, .slice _ _ _), (1, .slice _ _ _), (10, .bool _)] ⟨rfl, rfl, rfl, trivial⟩ fun σ => ?_
  refine gcond (b := _) rfl (fun hc10 => ?_) (fun hc10 => ?_)
  · 
    replace hc10 := of_decide_eq_true hc10
    refine gseq fun N4 hN4 => ?_
    refine greg ?_
    refine gop (y_assign (v := .bool _) rfl) rfl rfl rfl ?_
    refine gops_nil ?_
    refine hN4 _ _ ?_
    refine gfrom [(4, .bool _)] ⟨rfl, trivial⟩ fun σ => ?_
    refine gret fun w1 hM => ?_
    refine ⟨_, res1 rfl (rt (v := .bool _) rfl), ?_⟩
    exact ⟨by rw [decide_eq_false (fun e => by subst e; omega)], hM.low⟩
  · 
    replace hc10 := Decidable.not_not.1 (of_decide_eq_false hc10)
    refine gskip ?_
    refine hN2 _ _ ?_
    refine gfrom [(0, .slice _ _ _), (1, .slice _ _ _)] ⟨rfl, rfl, trivial⟩ fun σ => ?_
    refine gseq fun N5 hN5 => ?_
    refine gseq fun N6 hN6 => ?_
    refine greg ?_
    refine gop (y_move (v := .slice _ _ _) rfl) rfl rfl rfl ?_
    refine gop (y_len Tryd.underlying30 rfl) rfl rfl rfl ?_
    refine gop (y_move (v := .int _ _) rfl) rfl rfl rfl ?_
    refine gops_nil ?_
    refine hN6 _ _ ?_
    refine gfrom [(0, .slice _ _ _), (1, .slice _ _ _), (12, .int _ _), (13, .int _ _)] ⟨rfl, rfl, rfl, rfl, trivial⟩ fun σ => ?_
    refine gblock ?_
    refine gfrom2 [(13, .int _ _)] [(0, .slice _ _ _), (1, .slice _ _ _), (12, .int _ _)] ⟨rfl, trivial⟩ ⟨rfl, rfl, rfl, trivial⟩ fun σ => ?_
    refine gloop2 (G := Nat) (fun k => k ≤ a.length ∧ a.length = b.length ∧ a.take k = b.take k) (fun k => a.length - k) (fun k => [(13, .int .i64 (k : Int))]) (fun k => []) (0) ?h0 ⟨rfl, trivial⟩ ⟨rfl, rfl, rfl, trivial⟩ rfl ?round
    case h0 => exact ⟨Nat.zero_le _, by omega, by simp⟩
    case round =>
      intro k hφ σ
      obtain ⟨hk, hlm, htk⟩ := hφ
      refine gseq fun N7 hN7 => ?_
      refine greg ?_
      refine gop (y_lss rfl rfl) rfl rfl rfl ?_
      refine gops_nil ?_
      refine hN7 _ _ ?_
      refine gfrom [(0, .slice _ _ _), (1, .slice _ _ _), (12, .int _ _), (13, .int _ _), (14, .bool _)] ⟨rfl, rfl, rfl, rfl, rfl, trivial⟩ fun σ => ?_
      refine gseq fun N8 hN8 => ?_
      refine gcond (b := _) rfl (fun hc14 => ?_) (fun hc14 => ?_)
      · 
        replace hc14 := of_decide_eq_true hc14
        have hk1 : k < a.length := by omega
        have hk2 : k < b.length := by omega
        obtain ⟨ad, rfl, -, hca⟩ := ha.at_ hk1
        obtain ⟨ad', rfl, -, hcb⟩ := hb.at_ hk2
        refine gskip ?_
        refine hN8 _ _ ?_
        refine gfrom [(0, .slice _ _ _), (1, .slice _ _ _), (12, .int _ _), (13, .int _ _)] ⟨rfl, rfl, rfl, rfl, trivial⟩ fun σ => ?_
        refine gseq fun N9 hN9 => ?_
        refine gblock ?_
        refine gseq fun N10 hN10 => ?_
        refine greg ?_
        refine gop (y_move (v := .int _ _) rfl) rfl rfl rfl ?_
        refine gop (y_assign (v := .int _ _) rfl) rfl rfl rfl ?_
        refine gops_nil ?_
        refine hN10 _ _ ?_
        refine gfrom [(0, .slice _ _ _), (1, .slice _ _ _), (5, .int _ _), (12, .int _ _), (13, .int _ _)] ⟨rfl, rfl, rfl, rfl, rfl, trivial⟩ fun σ => ?_
        refine gseq fun N11 hN11 => ?_
        refine greg_q (by kernel_rfl) (by kernel_rfl) ?_
        refine gq (y_move (v := .slice _ _ _) rfl) rfl rfl rfl ?_
        refine gq (y_move (v := .int _ _) rfl) rfl rfl rfl ?_
        refine gq (y_indexAddr (m := k) Tryd.underlying30 Tryd.sizeOf3 rfl rfl (by omega) (by omega) (by omega)) rfl rfl rfl ?_
        refine gq (y_load Tryd.isAgg3 rfl (cell_base (hca 0 _ rfl))) rfl rfl rfl ?_
        refine gq (y_move (v := .slice _ _ _) rfl) rfl rfl rfl ?_
        refine gq (y_move (v := .int _ _) rfl) rfl rfl rfl ?_
        refine gq (y_indexAddr (m := k) Tryd.underlying30 Tryd.sizeOf3 rfl rfl (by omega) (by omega) (by omega)) rfl rfl rfl ?_
        refine gq (y_load Tryd.isAgg3 rfl (cell_base (hcb 0 _ rfl))) rfl rfl rfl ?_
        refine gq (y_neq rfl rfl) rfl rfl rfl ?_
        refine gqs_nil ?_
        refine hN11 _ _ ?_
        refine gfrom [(0, .slice _ _ _), (1, .slice _ _ _), (12, .int _ _), (13, .int _ _), (24, .bool _)] ⟨rfl, rfl, rfl, rfl, rfl, trivial⟩ fun σ => ?_
        refine gcond (b := _) rfl (fun hc24 => ?_) (fun hc24 => ?_)
        · 
          replace hc24 := of_decide_eq_true hc24
          refine gseq fun N12 hN12 => ?_
          refine greg ?_
          refine gop (y_assign (v := .bool _) rfl) rfl rfl rfl ?_
          refine gops_nil ?_
          refine hN12 _ _ ?_
          refine gfrom [(4, .bool _)] ⟨rfl, trivial⟩ fun σ => ?_
          refine gret fun w1 hM => ?_
          refine ⟨_, res1 rfl (rt (v := .bool _) rfl), ?_⟩
          exact ⟨by rw [decide_eq_false (ne_of_at hk1 hk2 hc24)], hM.low⟩
        · 
          replace hc24 := Decidable.not_not.1 (of_decide_eq_false hc24)
          refine gskip ?_
          refine hN9 _ _ ?_
          refine gfrom [(0, .slice _ _ _), (1, .slice _ _ _), (12, .int _ _), (13, .int _ _)] ⟨rfl, rfl, rfl, rfl, trivial⟩ fun σ => ?_
          refine greg ?_
          refine gop (y_add rfl rfl ⟨by omega, by omega⟩) rfl rfl rfl ?_
          refine gop (y_move (v := .int _ _) rfl) rfl rfl rfl ?_
          refine gops_nil ?_
          refine gnext2 (k + 1) (by omega) (⟨by omega, hlm, take_next a b k (by omega) (by omega) htk hc24⟩) ⟨rfl, trivial⟩ ⟨rfl, rfl, rfl, trivial⟩ ⟨_, rfl⟩
      · 
        replace hc14 := of_decide_eq_false hc14
        refine gexit ?_
        refine hN5 _ _ ?_
        refine gfrom [] trivial fun σ => ?_
        refine gseq fun N13 hN13 => ?_
        refine greg ?_
        refine gop (y_assign (v := .bool _) rfl) rfl rfl rfl ?_
        refine gops_nil ?_
        refine hN13 _ _ ?_
        refine gfrom [(4, .bool _)] ⟨rfl, trivial⟩ fun σ => ?_
        refine gret fun w1 hM => ?_
        refine ⟨_, res1 rfl (rt (v := .bool _) rfl), ?_⟩
        exact ⟨by rw [decide_eq_true (eq_of_takes hlm (by omega) htk)], hM.low⟩
set_option maxHeartbeats 1000000 in
theorem idxFuncG_any (w : World) (A : Option Addr) (c : Nat) (l : List GroupC) (hl : Rdl w 0 1 gpCells A l) (hn : l.length ≤ maxLen) (gf : FuncId) (fn : Func) (hgf : Tryd.prog.funcs[gf]? = some fn) (hgb : fn.body.isSome = true) (hgn : (fn.name == "runtime.NumGoroutine") = false) (cs : List Value) (p : List Int → Bool) (hcl : ∀ k (h : k < l.length) w1, Below w.heap.size w w1 → Calls Tryd.prog gf (([.slice l[k].A l[k].pl.length l[k].c] : List Value) ++ cs).toArray w1 (fun e w2 => e = .returned (.bool (p l[k].pl)) ∧ Below w1.heap.size w1 w2)) : Calls Tryd.prog 77 #[.slice A l.length c, .func (.func gf) #[] cs.toArray] w fun e w' => e = .returned (.int .i64 (idxP (fun a => p a.pl) l)) ∧ Below w.heap.size w w' := by
  unfold maxLen at hn
  refine gcalls Tryd.func77 rfl Tryd.ntmps77 (Nat.le_of_ble_eq_true rfl) ?_
  refine gfrom [(0, .slice _ _ _), (1, .func (.func gf) #[] cs.toArray)] ⟨rfl, rfl, trivial⟩ fun σ => ?_
  refine gseq fun N1 hN1 => ?_
  refine greg ?_
  refine gop (y_assign (v := .int _ _) rfl) rfl rfl rfl ?_
  refine gops_nil ?_
  refine hN1 _ _ ?_
  refine gfrom [(0, .slice _ _ _), (1, .func (.func gf) #[] cs.toArray)] ⟨rfl, rfl, trivial⟩ fun σ => ?_
  refine gseq fun N2 hN2 => ?_
  refine gseq fun N3 hN3 => ?_
  refine greg ?_
  refine gop (y_move (v := .slice _ _ _) rfl) rfl rfl rfl ?_
  refine gop (y_len Tryd.underlying44 rfl) rfl rfl rfl ?_
  refine gop (y_move (v := .int _ _) rfl) rfl rfl rfl ?_
  refine gops_nil ?_
  refine hN3 _ _ ?_
  refine gfrom [(0, .slice _ _ _), (1, .func (.func gf) #[] cs.toArray), (7, .int _ _), (8, .int _ _)] ⟨rfl, rfl, rfl, rfl, trivial⟩ fun σ => ?_
  refine gblock ?_
  refine gfrom2 [(8, .int _ _)] [(0, .slice _ _ _), (1, .func (.func gf) #[] cs.toArray), (7, .int _ _)] ⟨rfl, trivial⟩ ⟨rfl, rfl, rfl, trivial⟩ fun σ => ?_
  refine gloop2 (G := Nat) (fun k => k ≤ l.length ∧ ∀ j (h : j < l.length), j < k → p l[j].pl = false) (fun k => l.length - k) (fun k => [(8, .int .i64 (k : Int))]) (fun k => []) (0) ?h0 ⟨rfl, trivial⟩ ⟨rfl, rfl, rfl, trivial⟩ rfl ?round
  case h0 => exact ⟨Nat.zero_le _, fun _ _ h => absurd h (by omega)⟩
  case round =>
    intro k hφ σ
    obtain ⟨hk, hz⟩ := hφ
    refine gseq fun N4 hN4 => ?_
    refine greg ?_
    refine gop (y_lss rfl rfl) rfl rfl rfl ?_
    refine gops_nil ?_
    refine hN4 _ _ ?_
    refine gfrom [(0, .slice _ _ _), (1, .func (.func gf) #[] cs.toArray), (7, .int _ _), (8, .int _ _), (9, .bool _)] ⟨rfl, rfl, rfl, rfl, rfl, trivial⟩ fun σ => ?_
    refine gseq fun N5 hN5 => ?_
    refine gcond (b := _) rfl (fun hc9 => ?_) (fun hc9 => ?_)
    · 
      replace hc9 := of_decide_eq_true hc9
      have hk1 : k < l.length := by omega
      obtain ⟨ad, rfl, -, hca⟩ := hl.at_ hk1
      refine gskip ?_
      refine hN5 _ _ ?_
      refine gfrom [(0, .slice _ _ _), (1, .func (.func gf) #[] cs.toArray), (7, .int _ _), (8, .int _ _)] ⟨rfl, rfl, rfl, rfl, trivial⟩ fun σ => ?_
      refine gseq fun N6 hN6 => ?_
      refine gblock ?_
      refine gseq fun N7 hN7 => ?_
      refine greg ?_
      refine gop (y_move (v := .int _ _) rfl) rfl rfl rfl ?_
      refine gop (y_assign (v := .int _ _) rfl) rfl rfl rfl ?_
      refine gops_nil ?_
      refine hN7 _ _ ?_
      refine gfrom [(0, .slice _ _ _), (1, .func (.func gf) #[] cs.toArray), (5, .int _ _), (7, .int _ _), (8, .int _ _)] ⟨rfl, rfl, rfl, rfl, rfl, trivial⟩ fun σ => ?_
      refine gseq fun N8 hN8 => ?_
      refine greg ?_
      refine gop (y_move (v := .func (.func gf) #[] cs.toArray) rfl) rfl rfl rfl ?_
      refine gop (y_move (v := .slice _ _ _) rfl) rfl rfl rfl ?_
      refine gop (y_move (v := .int _ _) rfl) rfl rfl rfl ?_
      refine gop (y_indexAddr (m := k) Tryd.underlying44 Tryd.sizeOf30 rfl rfl (by omega) (by omega) (by omega)) rfl rfl rfl ?_
      refine gop (y_load Tryd.isAgg30 rfl (cell_base (hca 0 _ rfl))) rfl rfl rfl ?_
      refine gop_pure (e_callv (vs := [.slice _ _ _]) (cs := cs) rfl hgf hgb hgn rfl) (fun w hM => hcl k hk1 w hM.low) rfl rfl rfl ?_
      refine gops_nil ?_
      refine hN8 _ _ ?_
      refine gfrom [(0, .slice _ _ _), (1, .func (.func gf) #[] cs.toArray), (5, .int _ _), (7, .int _ _), (8, .int _ _), (16, .bool _)] ⟨rfl, rfl, rfl, rfl, rfl, rfl, trivial⟩ fun σ => ?_
      refine gcond (b := _) rfl (fun hc16 => ?_) (fun hc16 => ?_)
      · 
        refine gseq fun N9 hN9 => ?_
        refine greg ?_
        refine gop (y_move (v := .int _ _) rfl) rfl rfl rfl ?_
        refine gop (y_assign (v := .int _ _) rfl) rfl rfl rfl ?_
        refine gops_nil ?_
        refine hN9 _ _ ?_
        refine gfrom [(4, .int _ _)] ⟨rfl, trivial⟩ fun σ => ?_
        refine gret fun w1 hM => ?_
        refine ⟨_, res1 rfl (rt (v := .int _ _) rfl), ?_⟩
        exact ⟨by rw [idxP_hit (p := (fun a => p a.pl)) hk1 hz hc16], hM.low⟩
      · 
        refine gskip ?_
        refine hN6 _ _ ?_
        refine gfrom [(0, .slice _ _ _), (1, .func (.func gf) #[] cs.toArray), (7, .int _ _), (8, .int _ _)] ⟨rfl, rfl, rfl, rfl, trivial⟩ fun σ => ?_
        refine greg ?_
        refine gop (y_add rfl rfl ⟨by omega, by omega⟩) rfl rfl rfl ?_
        refine gop (y_move (v := .int _ _) rfl) rfl rfl rfl ?_
        refine gops_nil ?_
        refine gnext2 (k + 1) (by omega) (⟨by omega, fun j h hj => by rcases Nat.lt_succ_iff_lt_or_eq.1 hj with h1 | rfl; exact hz j h h1; exact hc16⟩) ⟨rfl, trivial⟩ ⟨rfl, rfl, rfl, trivial⟩ ⟨_, rfl⟩
    · 
      replace hc9 := of_decide_eq_false hc9
      have hI := idxP_none (p := (fun a => p a.pl)) (l := l) (fun j hj => hz j hj (by omega))
      refine gexit ?_
      refine hN2 _ _ ?_
      refine gfrom [] trivial fun σ => ?_
      refine gseq fun N10 hN10 => ?_
      refine greg ?_
      refine gop (y_assign (v := .int _ _) rfl) rfl rfl rfl ?_
      refine gops_nil ?_
      refine hN10 _ _ ?_
      refine gfrom [(4, .int _ _)] ⟨rfl, trivial⟩ fun σ => ?_
      refine gret fun w1 hM => ?_
      refine ⟨_, res1 rfl (rt (v := .int _ _) rfl), ?_⟩
      exact ⟨by rw [hI], hM.low⟩
set_option maxHeartbeats 1000000 in
theorem contFuncG_any (w : World) (A : Option Addr) (c : Nat) (l : List GroupC) (hl : Rdl w 0 1 gpCells A l) (hn : l.length ≤ maxLen) (n : Nat) (hnl : n = l.length) (gf : FuncId) (fn : Func) (hgf : Tryd.prog.funcs[gf]? = some fn) (hgb : fn.body.isSome = true) (hgn : (fn.name == "runtime.NumGoroutine") = false) (cs : List Value) (p : List Int → Bool) (hcl : ∀ k (h : k < l.length) w1, Below w.heap.size w w1 → Calls Tryd.prog gf (([.slice l[k].A l[k].pl.length l[k].c] : List Value) ++ cs).toArray w1 (fun e w2 => e = .returned (.bool (p l[k].pl)) ∧ Below w1.heap.size w1 w2)) : Calls Tryd.prog 55 #[.slice A n c, .func (.func gf) #[] cs.toArray] w fun e w' => e = .returned (.bool (l.any (fun a => p a.pl))) ∧ Below w.heap.size w w' := by
  subst hnl
  refine gcalls Tryd.func55 rfl Tryd.ntmps55 (Nat.le_of_ble_eq_true rfl) ?_
  refine gfrom [(0, .slice _ _ _), (1, .func (.func gf) #[] cs.toArray)] ⟨rfl, rfl, trivial⟩ fun σ => ?_
  refine gseq fun N1 hN1 => ?_
  refine greg ?_
  refine gop (y_assign (v := .bool _) rfl) rfl rfl rfl ?_
  refine gops_nil ?_
  refine hN1 _ _ ?_
  refine gfrom [(0, .slice _ _ _), (1, .func (.func gf) #[] cs.toArray)] ⟨rfl, rfl, trivial⟩ fun σ => ?_
  refine gseq fun N2 hN2 => ?_
  refine greg ?_
  refine gop (y_move (v := .slice _ _ _) rfl) rfl rfl rfl ?_
  refine gop (y_move (v := .func (.func gf) #[] cs.toArray) rfl) rfl rfl rfl ?_
  refine gop_pure (e_call (vs := [.slice _ _ _, .func (.func gf) #[] cs.toArray]) Tryd.func77 rfl (by kernel_rfl) rfl) (fun w hM => idxFuncG_any w A c l (hl.base hM) hn gf fn hgf hgb hgn cs p (fun k hk w1 hb => hcl k hk w1 (hM.call hb).low)) rfl rfl rfl ?_
  refine gop (y_geq rfl rfl) rfl rfl rfl ?_
  refine gop (y_assign (v := .bool _) rfl) rfl rfl rfl ?_
  refine gops_nil ?_
  refine hN2 _ _ ?_
  refine gfrom [(4, .bool _)] ⟨rfl, trivial⟩ fun σ => ?_
  refine gret fun w1 hM => ?_
  refine ⟨_, res1 rfl (rt (v := .bool _) rfl), ?_⟩
  exact ⟨by rw [idxP_any], hM.low⟩
set_option maxHeartbeats 1000000 in
theorem req1_any (w : World) (A : Option Addr) (c : Nat) (a : List Int) (ha : Rdl w 0 1 intCells A a) (han : a.length ≤ maxLen) (bg : Nat) (B : Option Addr) (d : Nat) (b : List Int) (hbox : w.cell? ⟨bg, 0, none⟩ = some (.slice B b.length d)) (hb : Rdl w 0 1 intCells B b) (hbn : b.length ≤ maxLen) : Calls Tryd.prog 51 #[.slice A a.length c, .pointer (some ⟨bg, 0, none⟩)] w fun e w' => e = .returned (.bool (decide (a = b))) ∧ Below w.heap.size w w' := by
  refine gcalls Tryd.func51 rfl Tryd.ntmps51 (Nat.le_of_ble_eq_true rfl) ?_
  refine gfrom [(0, .slice _ _ _), (1, .pointer (some ⟨bg, 0, none⟩))] ⟨rfl, rfl, trivial⟩ fun σ => ?_
  refine gseq fun N1 hN1 => ?_
  refine greg ?_
  refine gop (y_assign (v := .bool _) rfl) rfl rfl rfl ?_
  refine gops_nil ?_
  refine hN1 _ _ ?_
  refine gfrom [(0, .slice _ _ _), (1, .pointer (some ⟨bg, 0, none⟩))] ⟨rfl, rfl, trivial⟩ fun σ => ?_
  refine gseq fun N2 hN2 => ?_
  refine greg ?_
  refine gop (y_move (v := .slice _ _ _) rfl) rfl rfl rfl ?_
  refine gop (y_load (v := .slice B b.length d) Tryd.isAgg30 rfl (cell_base hbox)) rfl rfl rfl ?_
  refine gop_pure (e_call (vs := [.slice _ _ _, .slice _ _ _]) Tryd.func52 rfl (by kernel_rfl) rfl) (fun w hM => equalI_any w A c a (ha.base hM) han B d b (hb.base hM) hbn) rfl rfl rfl ?_
  refine gop (y_assign (v := .bool _) rfl) rfl rfl rfl ?_
  refine gops_nil ?_
  refine hN2 _ _ ?_
  refine gfrom [(3, .bool _)] ⟨rfl, trivial⟩ fun σ => ?_
  refine gret fun w1 hM => ?_
  refine ⟨_, res1 rfl (rt (v := .bool _) rfl), ?_⟩
  exact ⟨rfl, hM.low⟩
end Go.Proofs.YtijpaljdclhehaaDoor
namespace Go.Proofs.YtijpaljdclhehaaDoor
open Go.RowKit Go.Cf
set_option maxRecDepth 10000
set_option maxHeartbeats 2000000 in
theorem smaller_any (w : World) (A : Option Addr) (c : Nat) (a : List Int) (ha : Rdl w 0 1 intCells A a) (han : a.length ≤ maxLen) (B : Option Addr) (d : Nat) (b : List Int) (hb : Rdl w 0 1 intCells B b) (hbn : b.length ≤ maxLen) : Calls Tryd.prog 54 #[.slice A a.length c, .slice B b.length d] w fun e w' => e = .returned (.bool (smallerL a b)) ∧ Below w.heap.size w w' := by
  refine gcalls Tryd.func54 rfl Tryd.ntmps54 (Nat.le_of_ble_eq_true rfl) ?_
  refine gfrom [(0, .slice _ _ _), (1, .slice B _ d)] ⟨rfl, rfl, trivial⟩ fun σ => ?_
  refine gseq fun N1 hN1 => ?_
  refine greg ?_
  refine gop_box (v := .slice B _ d) (cs := #[_]) rfl rfl rfl (fun b3 hb3 => ?_)
  refine gop (y_assign (v := .bool _) rfl) rfl rfl rfl ?_
  refine gops_nil ?_
  refine hN1 _ _ ?_
  refine gT [box b3 _] rfl ?_
  refine gfrom [(0, .slice _ _ _), (3, .pointer _)] ⟨rfl, rfl, trivial⟩ fun σ => ?_
  refine gseq fun N2 hN2 => ?_
  refine greg ?_
  refine gop (y_move (v := .slice _ _ _) rfl) rfl rfl rfl ?_
  refine gop (y_len Tryd.underlying30 rfl) rfl rfl rfl ?_
  refine gop (y_gtr rfl rfl) rfl rfl rfl ?_
  refine gop (y_move (v := .bool _) rfl) rfl rfl rfl ?_
  refine gop_if (want := true) rfl rfl rfl rfl rfl rfl (fun hg8 => ?_) (fun hg8 => ?_)
  · 
    have hg8d := of_decide_eq_true hg8
    refine gop (y_bare (y_move (v := .slice _ _ _) rfl)) rfl rfl rfl ?_
    refine gop_on rfl rfl rfl rfl hg8 ?_
    refine gop (y_bare (y_len Tryd.underlying30 rfl)) rfl rfl rfl ?_
    refine gop_on rfl rfl rfl rfl hg8 ?_
    refine gop (y_bare (y_load Tryd.isAgg30 rfl (cell_box 0 rfl rfl))) rfl rfl rfl ?_
    refine gop_on rfl rfl rfl rfl hg8 ?_
    refine gop (y_bare (y_len Tryd.underlying30 rfl)) rfl rfl rfl ?_
    refine gop_on rfl rfl rfl rfl hg8 ?_
    refine gop (y_bare (y_lss rfl rfl)) rfl rfl rfl ?_
    refine gop (y_pick_t (v := .bool _) rfl hg8 rfl) rfl rfl rfl ?_
    refine gop (y_move (v := .bool _) rfl) rfl rfl rfl ?_
    refine gop_if (want := true) rfl rfl rfl rfl rfl rfl (fun hg15 => ?_) (fun hg15 => ?_)
    · 
      have hg15d := of_decide_eq_true hg15
      refine gop (y_bare (y_move (v := .slice _ _ _) rfl)) rfl rfl rfl ?_
      refine gop_on rfl rfl rfl rfl hg15 ?_
      refine gop (y_bare (y_makeFunc (vs := [.pointer (some ⟨b3, 0, none⟩)]) rfl)) rfl rfl rfl ?_
      refine gop_on rfl rfl rfl rfl hg15 ?_
      refine gop_pure (e_call (vs := [.slice _ _ _, .func (.func 75) #[] #[.pointer (some ⟨b3, 0, none⟩)]]) Tryd.func74 rfl (by kernel_rfl) rfl) (fun w hM => by have h1 : ∀ k (h : k < a.length) w1, Below w.heap.size w w1 → Calls Tryd.prog 75 (([.int .i64 a[k]] : List Value) ++ [Value.pointer (some ⟨b3, 0, none⟩)]).toArray w1 (fun e w2 => e = .returned (.bool (!hasI b a[k])) ∧ Below w1.heap.size w1 w2) := (fun k hk w1 hb1 => smaller1_any w1 a[k] b3 B d b ((hM.call hb1).cell 0 rfl rfl) (hb.base (hM.call hb1)) hbn); have hc := contFuncI_any w A c a (ha.base hM) han 75 _ Tryd.func75 (by kernel_rfl) (by kernel_rfl) [.pointer (some ⟨b3, 0, none⟩)] (fun u => !hasI b u) h1; exact hc) rfl rfl rfl ?_
      refine gop_on rfl rfl rfl rfl hg15 ?_
      refine gop (y_bare (y_not rfl)) rfl rfl rfl ?_
      refine gop (y_pick_t (v := .bool _) rfl hg15 rfl) rfl rfl rfl ?_
      refine gop (y_assign (v := .bool _) rfl) rfl rfl rfl ?_
      refine gops_nil ?_
      refine hN2 _ _ ?_
      refine gfrom [(4, .bool _)] ⟨rfl, trivial⟩ fun σ => ?_
      refine gret fun w1 hM => ?_
      refine ⟨_, res1 rfl (rt (v := .bool _) rfl), ?_⟩
      first | exact ⟨by rw [smallerL, decide_eq_true (show 0 < a.length by omega), decide_eq_true (show a.length < b.length by omega)]; rfl, hM.low⟩ | exact ⟨by rw [smallerL, decide_eq_false (show ¬ 0 < a.length by omega)]; rfl, hM.low⟩ | exact ⟨by rw [smallerL, decide_eq_false (show ¬ a.length < b.length by omega)]; simp, hM.low⟩
    · 
      have hg15d := of_decide_eq_false hg15
      refine gop_off rfl rfl rfl rfl hg15 rfl rfl ?_
      refine gop_off rfl rfl rfl rfl hg15 rfl rfl ?_
      refine gop_off rfl rfl rfl rfl hg15 rfl rfl ?_
      refine gop (y_pick_f (v := .bool _) rfl hg15 rfl) rfl rfl rfl ?_
      refine gop (y_assign (v := .bool _) rfl) rfl rfl rfl ?_
      refine gops_nil ?_
      refine hN2 _ _ ?_
      refine gfrom [(4, .bool _)] ⟨rfl, trivial⟩ fun σ => ?_
      refine gret fun w1 hM => ?_
      refine ⟨_, res1 rfl (rt (v := .bool _) rfl), ?_⟩
      first | exact ⟨by rw [smallerL, decide_eq_true (show 0 < a.length by omega), decide_eq_true (show a.length < b.length by omega)]; rfl, hM.low⟩ | exact ⟨by rw [smallerL, decide_eq_false (show ¬ 0 < a.length by omega)]; rfl, hM.low⟩ | exact ⟨by rw [smallerL, decide_eq_false (show ¬ a.length < b.length by omega)]; simp, hM.low⟩
  · 
    have hg8d := of_decide_eq_false hg8
    refine gop_off rfl rfl rfl rfl hg8 rfl rfl ?_
    refine gop_off rfl rfl rfl rfl hg8 rfl rfl ?_
    refine gop_off rfl rfl rfl rfl hg8 rfl rfl ?_
    refine gop_off rfl rfl rfl rfl hg8 rfl rfl ?_
    refine gop (y_pick_f (v := .bool _) rfl hg8 rfl) rfl rfl rfl ?_
    refine gop (y_move (v := .bool _) rfl) rfl rfl rfl ?_
    refine gop_off rfl rfl rfl rfl rfl rfl rfl ?_
    refine gop_off rfl rfl rfl rfl rfl rfl rfl ?_
    refine gop_off rfl rfl rfl rfl rfl rfl rfl ?_
    refine gop_off rfl rfl rfl rfl rfl rfl rfl ?_
    refine gop (y_pick_f (v := .bool _) rfl rfl rfl) rfl rfl rfl ?_
    refine gop (y_assign (v := .bool _) rfl) rfl rfl rfl ?_
    refine gops_nil ?_
    refine hN2 _ _ ?_
    refine gfrom [(4, .bool _)] ⟨rfl, trivial⟩ fun σ => ?_
    refine gret fun w1 hM => ?_
    refine ⟨_, res1 rfl (rt (v := .bool _) rfl), ?_⟩
    first | exact ⟨by rw [smallerL, decide_eq_true (show 0 < a.length by omega), decide_eq_true (show a.length < b.length by omega)]; rfl, hM.low⟩ | exact ⟨by rw [smallerL, decide_eq_false (show ¬ 0 < a.length by omega)]; rfl, hM.low⟩ | exact ⟨by rw [smallerL, decide_eq_false (show ¬ a.length < b.length by omega)]; simp, hM.low⟩
set_option maxHeartbeats 1000000 in
theorem req2_any (w : World) (A : Option Addr) (c : Nat) (a : List Int) (ha : Rdl w 0 1 intCells A a) (han : a.length ≤ maxLen) (bg : Nat) (B : Option Addr) (d : Nat) (b : List Int) (hbox : w.cell? ⟨bg, 0, none⟩ = some (.slice B b.length d)) (hb : Rdl w 0 1 intCells B b) (hbn : b.length ≤ maxLen) : Calls Tryd.prog 53 #[.slice A a.length c, .pointer (some ⟨bg, 0, none⟩)] w fun e w' => e = .returned (.bool (smallerL a b)) ∧ Below w.heap.size w w' := by
  refine gcalls Tryd.func53 rfl Tryd.ntmps53 (Nat.le_of_ble_eq_true rfl) ?_
  refine gfrom [(0, .slice _ _ _), (1, .pointer (some ⟨bg, 0, none⟩))] ⟨rfl, rfl, trivial⟩ fun σ => ?_
  refine gseq fun N1 hN1 => ?_
  refine greg ?_
  refine gop (y_assign (v := .bool _) rfl) rfl rfl rfl ?_
  refine gops_nil ?_
  refine hN1 _ _ ?_
  refine gfrom [(0, .slice _ _ _), (1, .pointer (some ⟨bg, 0, none⟩))] ⟨rfl, rfl, trivial⟩ fun σ => ?_
  refine gseq fun N2 hN2 => ?_
  refine greg ?_
  refine gop (y_move (v := .slice _ _ _) rfl) rfl rfl rfl ?_
  refine gop (y_load (v := .slice B b.length d) Tryd.isAgg30 rfl (cell_base hbox)) rfl rfl rfl ?_
  refine gop_pure (e_call (vs := [.slice _ _ _, .slice _ _ _]) Tryd.func54 rfl (by kernel_rfl) rfl) (fun w hM => smaller_any w A c a (ha.base hM) han B d b (hb.base hM) hbn) rfl rfl rfl ?_
  refine gop (y_assign (v := .bool _) rfl) rfl rfl rfl ?_
  refine gops_nil ?_
  refine hN2 _ _ ?_
  refine gfrom [(3, .bool _)] ⟨rfl, trivial⟩ fun σ => ?_
  refine gret fun w1 hM => ?_
  refine ⟨_, res1 rfl (rt (v := .bool _) rfl), ?_⟩
  exact ⟨rfl, hM.low⟩
end Go.Proofs.YtijpaljdclhehaaDoor
namespace Go.Proofs.YtijpaljdclhehaaDoor
open Go.RowKit Go.Cf
set_option maxRecDepth 10000
theorem el30 : Elem Tryd.prog 30 1 24 := elem_of (z := .slice none 0 0) (by kernel_rfl) rfl (by decide)
set_option maxHeartbeats 8000000 in
theorem required_any (w : World) (A : Option Addr) (c : Nat) (rs : List RuleC) (hR : RulesR w 0 A c rs) (PA : Option Addr) (pc : Nat) (ps : List ByteArray) (hps : Rdl w 0 1 strCells PA ps) (hpl : ps.length ≤ pc) (hpm : pc ≤ maxLen) :
    Calls Tryd.prog 24 #[.slice A rs.length c, .slice PA ps.length pc] w fun e w' => ∃ v T' og fr, e = .returned (.tuple #[v, fv (reqF (rls rs) ps)]) ∧ T' = [rowl gpCells w.heap.size 30 1 (v) (og), fr] ∧ gps og = reqV (rls rs) ps ∧ (∀ w1, fr.ok w1 → ∀ a ∈ og, GrR w1 w.heap.size a) ∧ Mem w T' w' := by
  have hln := hR.sb.len
  have hmx := hR.sb.max
  unfold maxLen at hmx
  have hpn : ps.length ≤ 9223372036854775807 := by have h9 := Nat.le_trans hpl hpm; unfold maxLen at h9; omega
  refine gcalls Tryd.func24 rfl Tryd.ntmps24 (Nat.le_of_ble_eq_true rfl) ?_
  refine gfrom [(0, .slice _ _ _), (1, .slice _ _ _)] ⟨rfl, rfl, trivial⟩ fun σ => ?_
  refine gseq fun N1 hN1 => ?_
  refine greg ?_
  refine gop (y_assign (v := .slice _ _ _) rfl) rfl rfl rfl ?_
  refine gop_alloc (cs := #[.int .i64 0, .int .i64 0]) Tryd.zeroValue23 rfl rfl (fun b5 hb5 => ?_)
  refine gops_nil ?_
  refine hN1 _ _ ?_
  refine gT [box b5 _] rfl ?_
  refine gfrom [(0, .slice _ _ _), (1, .slice _ _ _), (5, .pointer _)] ⟨rfl, rfl, rfl, trivial⟩ fun σ => ?_
  refine gseq fun N2 hN2 => ?_
  refine gseq fun N3 hN3 => ?_
  refine greg ?_
  refine gop (y_move (v := .slice _ _ _) rfl) rfl rfl rfl ?_
  refine gop_pure (e_call (vs := [.slice _ _ _]) Tryd.func28 rfl (by kernel_rfl) rfl) (fun w hM => ownValidate_any w A c rs (RulesR.lasts.base hR hM)) rfl rfl rfl ?_
  refine gop_alloc (cs := #[.int .i64 0, .int .i64 0]) Tryd.zeroValue23 rfl rfl (fun b6 hb6 => ?_)
  refine gop_store 1 (v := .agg #[_, _]) (cs' := #[_, _]) rfl rfl Tryd.sizeOf23 rfl rfl rfl rfl (Nat.le_of_ble_eq_true rfl) rfl rfl ?_
  refine gops_nil ?_
  refine hN3 _ _ ?_
  refine gT [box b5 _, box b6 _] rfl ?_
  refine gfrom [(0, .slice _ _ _), (1, .slice _ _ _), (5, .pointer _), (6, .pointer _)] ⟨rfl, rfl, rfl, rfl, trivial⟩ fun σ => ?_
  refine gseq fun N4 hN4 => ?_
  refine greg ?_
  refine gop (y_loads (cs := [_, _]) Tryd.isAgg23 Tryd.sizeOf23 rfl rfl (cells_box 1 rfl)) rfl rfl rfl ?_
  refine gop (y_build (vs := []) (cells := #[.int .i64 0, .int .i64 0]) rfl bd23_) rfl rfl rfl ?_
  refine gop (y_bin (vx := .agg #[_, _]) (vy := .agg #[_, _]) rfl rfl (fun w => eg23 _ _ _ _ _ w) (fun w => ne23 _ _ _ _ w)) rfl rfl rfl ?_
  refine gops_nil ?_
  refine hN4 _ _ ?_
  refine gfrom [(0, .slice _ _ _), (1, .slice _ _ _), (5, .pointer _), (6, .pointer _), (19, .bool _)] ⟨rfl, rfl, rfl, rfl, rfl, trivial⟩ fun σ => ?_
  refine gcond (b := _) rfl (fun hc19 => ?_) (fun hc19 => ?_)
  · 
    replace hc19 := fault_ne.1 hc19
    have hFF : reqF (rls rs) ps = rulesF (rls rs) := by rw [reqF, if_pos hc19]
    refine gseq fun N5 hN5 => ?_
    refine greg_e1 [] [(0, room b5 23 2)] (by kernel_rfl) ?_
    refine ge_take 0 (TK := [room b5 23 2, box b6 _]) rfl (by kernel_rfl) (by kernel_rfl) (by kernel_rfl) #[false, true, false] (by kernel_rfl) rfl (y_loads (cs := [_, _]) Tryd.isAgg23 Tryd.sizeOf23 rfl rfl (cells_box 1 rfl)) rfl rfl rfl (weak_room 0 rfl rfl) (listed' := #[true, false, false]) rfl ?_
    refine ge_take 1 (TK := [room b5 23 2, box b6 _]) rfl (by kernel_rfl) (by kernel_rfl) (by kernel_rfl) #[true, false, false] (by kernel_rfl) rfl (y_assign (v := .slice _ _ _) rfl) rfl rfl rfl (weak_room 0 rfl rfl) (listed' := #[true, true, false]) rfl ?_
    refine ge_one 2 (k' := 0) (listed' := #[true, true, true]) (by kernel_rfl) rfl rfl rfl ?_
    refine gop_store 0 (v := .agg #[_, _]) (cs' := #[_, _]) rfl rfl Tryd.sizeOf23 rfl rfl rfl rfl (Nat.le_of_ble_eq_true rfl) rfl rfl ?_
    refine gops_nil ?_
    refine ge_fin (TK := [room b5 23 2, box b6 _]) rfl (weak_room 0 rfl rfl) ?_
    refine ge_done (by kernel_rfl) ?_
    refine hN5 _ _ ?_
    refine gT [box b5 _, box b6 _] rfl ?_
    refine gfrom [(4, .slice _ _ _), (5, .pointer _)] ⟨rfl, rfl, trivial⟩ fun σ => ?_
    refine gret fun w1 hM => ?_
    refine ⟨_, res2 rfl (rt (v := .slice _ _ _) rfl) (rc 0 (cs := [_, _]) hM rfl rfl Tryd.isAgg23 Tryd.sizeOf23 rfl), ?_⟩
    exact ⟨_, _, [], emp, by rw [hFF], rfl, by rw [reqV, if_neg (by rw [hFF]; exact hc19)]; rfl, fun _ _ _ h => (by cases h), (mem_nilrow gpCells 30 1 hM).emp.dropTo 2 rfl⟩
  · 
    replace hc19 := fault_eq.1 hc19
    refine gskip ?_
    refine hN2 _ _ ?_
    refine gfrom [(0, .slice _ _ _), (1, .slice _ _ _), (5, .pointer _)] ⟨rfl, rfl, rfl, trivial⟩ fun σ => ?_
    refine gseq fun N6 hN6 => ?_
    refine gseq fun N7 hN7 => ?_
    refine greg ?_
    refine gop (y_move (v := .slice _ _ _) rfl) rfl rfl rfl ?_
    refine gop (y_len Tryd.underlying37 rfl) rfl rfl rfl ?_
    refine gop (y_gtr rfl rfl) rfl rfl rfl ?_
    refine gops_nil ?_
    refine hN7 _ _ ?_
    refine gfrom [(0, .slice _ _ _), (1, .slice _ _ _), (5, .pointer _), (23, .bool _)] ⟨rfl, rfl, rfl, rfl, trivial⟩ fun σ => ?_
    refine gcond (b := _) rfl (fun hc23 => ?_) (fun hc23 => ?_)
    · 
      replace hc23 := of_decide_eq_true hc23
      have hFF : reqF (rls rs) ps = ⟨2, -2⟩ := by rw [reqF, if_neg (fun h => h hc19), if_pos (by omega)]
      refine gseq fun N8 hN8 => ?_
      refine greg ?_
      refine gop (y_build (vs := [(0, _), (1, _)]) (cells := #[_, _]) rfl (bd23_0_1 _ _)) rfl rfl rfl ?_
      refine gop (y_assign (v := .slice _ _ _) rfl) rfl rfl rfl ?_
      refine gop_store 0 (v := .agg #[_, _]) (cs' := #[_, _]) rfl rfl Tryd.sizeOf23 rfl rfl rfl rfl (Nat.le_of_ble_eq_true rfl) rfl rfl ?_
      refine gops_nil ?_
      refine hN8 _ _ ?_
      refine gT [box b5 _, box b6 _] rfl ?_
      refine gfrom [(4, .slice _ _ _), (5, .pointer _)] ⟨rfl, rfl, trivial⟩ fun σ => ?_
      refine gret fun w1 hM => ?_
      refine ⟨_, res2 rfl (rt (v := .slice _ _ _) rfl) (rc 0 (cs := [_, _]) hM rfl rfl Tryd.isAgg23 Tryd.sizeOf23 rfl), ?_⟩
      exact ⟨_, _, [], emp, by rw [hFF], rfl, by rw [reqV, if_neg (by rw [hFF]; decide)]; rfl, fun _ _ _ h => (by cases h), (mem_nilrow gpCells 30 1 hM).emp.dropTo 2 rfl⟩
    · 
      replace hc23 := of_decide_eq_false hc23
      refine gskip ?_
      refine hN6 _ _ ?_
      refine gfrom [(0, .slice _ _ _), (1, .slice _ _ _), (5, .pointer _)] ⟨rfl, rfl, rfl, trivial⟩ fun σ => ?_
      refine gseq fun N9 hN9 => ?_
      refine greg ?_
      refine gop (y_assign (v := .slice _ _ _) rfl) rfl rfl rfl ?_
      refine gops_nil ?_
      refine hN9 _ _ ?_
      refine gfrom [(0, .slice _ _ _), (1, .slice _ _ _), (5, .pointer _), (7, .slice _ _ _)] ⟨rfl, rfl, rfl, rfl, trivial⟩ fun σ => ?_
      refine gseq fun N10 hN10 => ?_
      refine gseq fun N11 hN11 => ?_
      refine greg ?_
      refine gop (y_move (v := .slice _ _ _) rfl) rfl rfl rfl ?_
      refine gop (y_len Tryd.underlying37 rfl) rfl rfl rfl ?_
      refine gop (y_move (v := .int _ _) rfl) rfl rfl rfl ?_
      refine gops_nil ?_
      refine hN11 _ _ ?_
      refine gfrom [(0, .slice _ _ _), (5, .pointer _), (7, .slice _ _ _), (25, .slice _ _ _), (26, .int _ _), (27, .int _ _)] ⟨rfl, rfl, rfl, rfl, rfl, rfl, trivial⟩ fun σ => ?_
      refine gblock ?_
      refine gnilrow gpCells 30 1 ?_
      refine g_emp ?_
      refine gfrom2 [(7, .slice _ _ _), (27, .int _ _)] [(0, .slice _ _ _), (5, .pointer _), (25, .slice _ _ _), (26, .int _ _)] ⟨rfl, rfl, trivial⟩ ⟨rfl, rfl, rfl, rfl, trivial⟩ fun σ => ?_
      refine gloop2 (G := Nat × Option Addr × Nat × List GroupC × Reg) (fun (k, Av, cv, gs, fr) => k ≤ ps.length ∧ gps gs = (ps.take k).map (findU (rls rs)) ∧ (∀ j (h : j < ps.length), j < k → pathOk ps[j] = true) ∧ (∀ w1, fr.ok w1 → ∀ a ∈ gs, GrR w1 w.heap.size a)) (fun (k, Av, cv, gs, fr) => ps.length - k) (fun (k, Av, cv, gs, fr) => [(7, .slice Av gs.length cv), (27, .int .i64 (k : Int))]) (fun (k, Av, cv, gs, fr) => [(2, rowl gpCells w.heap.size 30 1 (.slice Av gs.length cv) (gs)), (3, fr)]) ((0, none, 0, [], emp)) ?h0 ⟨rfl, rfl, trivial⟩ ⟨rfl, rfl, rfl, rfl, trivial⟩ rfl ?round
      case h0 => exact ⟨Nat.zero_le _, rfl, fun _ _ h => absurd h (by omega), fun _ _ _ h => (by cases h)⟩
      case round =>
        rintro ⟨k, Av, cv, gs, fr⟩ hφ σ
        obtain ⟨hk, hgl, hz, hfr⟩ := hφ
        have hgsl : gs.length = k := by have h8 := congrArg List.length hgl; simp at h8; omega
        refine gT [box b5 _, box b6 _, rowl _ _ _ _ _ _, fr] rfl ?_
        refine gseq fun N12 hN12 => ?_
        refine greg ?_
        refine gop (y_lss rfl rfl) rfl rfl rfl ?_
        refine gops_nil ?_
        refine hN12 _ _ ?_
        refine gfrom [(0, .slice _ _ _), (5, .pointer _), (7, .slice Av _ cv), (25, .slice _ _ _), (26, .int _ _), (27, .int _ _), (28, .bool _)] ⟨rfl, rfl, rfl, rfl, rfl, rfl, rfl, trivial⟩ fun σ => ?_
        refine gseq fun N13 hN13 => ?_
        refine gcond (b := _) rfl (fun hc28 => ?_) (fun hc28 => ?_)
        · 
          replace hc28 := of_decide_eq_true hc28
          have hk1 : k < ps.length := by omega
          obtain ⟨ad, rfl, -, hca⟩ := hps.at_ hk1
          refine gskip ?_
          refine hN13 _ _ ?_
          refine gfrom [(0, .slice _ _ _), (5, .pointer _), (7, .slice Av _ cv), (25, .slice _ _ _), (26, .int _ _), (27, .int _ _)] ⟨rfl, rfl, rfl, rfl, rfl, rfl, trivial⟩ fun σ => ?_
          refine gseq fun N14 hN14 => ?_
          refine gblock ?_
          refine gseq fun N15 hN15 => ?_
          refine greg ?_
          refine gop (y_move (v := .int _ _) rfl) rfl rfl rfl ?_
          refine gop (y_indexAddr (m := k) Tryd.underlying37 Tryd.sizeOf9 rfl rfl (by omega) (by omega) (by omega)) rfl rfl rfl ?_
          refine gop (y_load Tryd.isAgg9 rfl (cell_base (hca 0 _ rfl))) rfl rfl rfl ?_
          refine gop (y_assign (v := .int _ _) rfl) rfl rfl rfl ?_
          refine gop (y_assign (v := .string _) rfl) rfl rfl rfl ?_
          refine gops_nil ?_
          refine hN15 _ _ ?_
          refine gfrom [(0, .slice _ _ _), (5, .pointer _), (7, .slice Av _ cv), (8, .int _ _), (9, .string _), (25, .slice _ _ _), (26, .int _ _), (27, .int _ _)] ⟨rfl, rfl, rfl, rfl, rfl, rfl, rfl, rfl, trivial⟩ fun σ => ?_
          refine gseq fun N16 hN16 => ?_
          refine gseq fun N17 hN17 => ?_
          refine greg ?_
          refine gop (y_move (v := .string _) rfl) rfl rfl rfl ?_
          refine gop_pure (e_call (vs := [.string _]) Tryd.func42 rfl (by kernel_rfl) rfl) (fun w hM => validPath_any w _) rfl rfl rfl ?_
          refine gop (y_not rfl) rfl rfl rfl ?_
          refine gops_nil ?_
          refine hN17 _ _ ?_
          refine gfrom [(0, .slice _ _ _), (5, .pointer _), (7, .slice Av _ cv), (8, .int _ _), (9, .string _), (25, .slice _ _ _), (26, .int _ _), (27, .int _ _), (34, .bool _)] ⟨rfl, rfl, rfl, rfl, rfl, rfl, rfl, rfl, rfl, trivial⟩ fun σ => ?_
          refine gcond (b := _) rfl (fun hc34 => ?_) (fun hc34 => ?_)
          · 
            replace hc34 := not_t hc34
            have hFF : reqF (rls rs) ps = ⟨12, -3 - (k : Int)⟩ := by rw [reqF, if_neg (fun h => h hc19), if_neg (by omega), pathsF_at hk1 hz hc34]
            refine gseq fun N18 hN18 => ?_
            refine greg ?_
            refine gop (y_move (v := .int _ _) rfl) rfl rfl rfl ?_
            refine gop (y_sub rfl rfl ⟨by omega, by omega⟩) rfl rfl rfl ?_
            refine gop (y_build (vs := [(0, _), (1, .int _ _)]) (cells := #[_, _]) rfl (bd23_0_1 _ _)) rfl rfl rfl ?_
            refine gop (y_assign (v := .slice _ _ _) rfl) rfl rfl rfl ?_
            refine gop_store 0 (v := .agg #[_, _]) (cs' := #[_, _]) rfl rfl Tryd.sizeOf23 rfl rfl rfl rfl (Nat.le_of_ble_eq_true rfl) rfl rfl ?_
            refine gops_nil ?_
            refine hN18 _ _ ?_
            refine gT [box b5 _, box b6 _, rowl _ _ _ _ _ _, fr] rfl ?_
            refine gfrom [(4, .slice _ _ _), (5, .pointer _)] ⟨rfl, rfl, trivial⟩ fun σ => ?_
            refine gret fun w1 hM => ?_
            refine ⟨_, res2 rfl (rt (v := .slice _ _ _) rfl) (rc 0 (cs := [_, _]) hM rfl rfl Tryd.isAgg23 Tryd.sizeOf23 rfl), ?_⟩
            exact ⟨_, _, [], emp, by rw [hFF], rfl, by rw [reqV, if_neg (by rw [hFF]; exact fun h => absurd (congrArg Fault.code h) (show ¬ (12 : Int) = 0 by decide))]; rfl, fun _ _ _ h => (by cases h), (mem_nilrow gpCells 30 1 hM).emp.dropTo 4 rfl⟩
          · 
            replace hc34 := not_f hc34
            have hpk : pathOk ps[k] = true := hc34
            refine gskip ?_
            refine hN16 _ _ ?_
            refine gfrom [(0, .slice _ _ _), (5, .pointer _), (7, .slice Av _ cv), (9, .string _), (25, .slice _ _ _), (26, .int _ _), (27, .int _ _)] ⟨rfl, rfl, rfl, rfl, rfl, rfl, rfl, trivial⟩ fun σ => ?_
            refine greg ?_
            refine gop (y_move (v := .slice Av _ cv) rfl) rfl rfl rfl ?_
            refine gop (y_move (v := .slice _ _ _) rfl) rfl rfl rfl ?_
            refine gop (y_move (v := .string _) rfl) rfl rfl rfl ?_
            refine gop_got (fun v T' => ∃ lo, w.heap.size ≤ lo ∧ T' = [rowl intCells lo 3 1 (v) (findU (rls rs) ps[k])]) (e_call (vs := [.slice _ _ _, .string _]) Tryd.func49 rfl (by kernel_rfl) rfl) (fun w hM => (find_any w A c rs (RulesR.lasts.base hR hM) ps[k] (fun a ha => Nat.le_trans (patFault_size (ruleCode_zero (rulesF_each hc19 a.pl (List.mem_map.2 ⟨a, ha, rfl⟩))).1) (by decide)) (Nat.le_trans (pathOk_size hpk) (by decide)) (fun a ha => Nat.le_trans (ruleCode_zero (rulesF_each hc19 a.pl (List.mem_map.2 ⟨a, ha, rfl⟩))).2.1 (by decide))).mono fun _ _ ⟨v, T1, h1, h2, h3⟩ => ⟨v, T1, h1, ⟨_, hM.low.size, h2⟩, h3⟩) rfl rfl rfl ?_
            rintro v41 _ ⟨lo41, hlo41, rfl⟩
            refine gops_fact (fun w hM => row_form (hM.ok _ (List.mem_of_getElem? (i := 4) rfl))) ?_
            rintro ⟨A41, c41, rfl, hc41, hm41, hn41⟩
            refine gops_mem _ (weak_lower 4 rfl hlo41) ?_
            refine gop_lit (vs := [.slice A41 _ c41]) (cells := #[_]) Tryd.underlying44 Tryd.sizeOf30 Tryd.zeroValue30 rfl (by decide) (by decide) rfl rfl rfl rfl (fun b42 hb42 => ?_)
            refine gop_append 2 (f := gpCells) (l2 := [⟨findU (rls rs) ps[k], A41, c41⟩]) Tryd.underlying44 el30 wide_gp (v := .slice Av _ cv) rfl rfl rfl rfl (fun h => by cases h) (by simp [maxLen]; omega) (by simp; omega) (src_box 5 rfl rfl) rfl (fun v43 => ?_)
            refine gops_fact (fun w hM => own_form (hM.own 2 rfl)) ?_
            rintro ⟨A43, c43, rfl, hc43, hm43⟩
            refine gop (y_assign (v := .slice A43 _ c43) rfl) rfl rfl rfl ?_
            refine gops_nil ?_
            refine hN14 _ _ ?_
            refine gT [box b5 _, box b6 _, rowl _ _ _ _ _ _, fr, rowl _ _ _ _ _ _, box b42 _] rfl ?_
            refine gfrom [(0, .slice _ _ _), (5, .pointer _), (7, .slice A43 _ c43), (25, .slice _ _ _), (26, .int _ _), (27, .int _ _)] ⟨rfl, rfl, rfl, rfl, rfl, rfl, trivial⟩ fun σ => ?_
            refine greg ?_
            refine gop (y_add rfl rfl ⟨by omega, by omega⟩) rfl rfl rfl ?_
            refine gop (y_move (v := .int _ _) rfl) rfl rfl rfl ?_
            refine gops_nil ?_
            refine fin_mem _ (weak_all 4 3 rfl) ?_
            refine gnext2 ((k + 1, A43, c43, gs ++ [⟨findU (rls rs) ps[k], A41, c41⟩], both fr (all_ [_, _]))) (by show ps.length - (k + 1) < ps.length - k; omega) (⟨by show k + 1 ≤ _; omega, by show List.map _ _ = _; rw [List.map_append, List.take_succ_eq_append_getElem hk1, List.map_append]; show gps gs ++ _ = _; rw [hgl]; rfl, fun j h hj => by rcases Nat.lt_succ_iff_lt_or_eq.1 hj with h1 | rfl; exact hz j h h1; exact hpk, fun w1 ho a ha => ?hr⟩) ⟨rfl, rfl, trivial⟩ ⟨rfl, rfl, rfl, rfl, trivial⟩ ⟨_, rfl⟩
            case hr =>
              rcases List.mem_append.1 ha with ha | ha
              · exact hfr w1 ho.1 a ha
              · obtain rfl := List.mem_singleton.1 ha
                exact grR_row ho.2.1
        · 
          replace hc28 := of_decide_eq_false hc28
          have hPF : pathsF ps = ⟨0, 0⟩ := pathsF_ok (fun j hj => hz j hj (by omega))
          have hFF : reqF (rls rs) ps = ⟨0, 0⟩ := by rw [reqF, if_neg (fun h => h hc19), if_neg (by omega), hPF]
          have hgs : gps gs = groupsL (rls rs) ps := by rw [hgl, List.take_of_length_le (by omega)]; rfl
          have hgn : gs.length = ps.length := by have h8 := congrArg List.length hgs; simp [groupsL] at h8; exact h8
          refine gexit ?_
          refine hN10 _ _ ?_
          refine gfrom [(5, .pointer _), (7, .slice Av _ cv)] ⟨rfl, rfl, trivial⟩ fun σ => ?_
          refine gseq fun N19 hN19 => ?_
          refine greg ?_
          refine gop (y_assign (v := .slice _ _ _) rfl) rfl rfl rfl ?_
          refine gops_nil ?_
          refine hN19 _ _ ?_
          refine gfrom [(5, .pointer _), (7, .slice Av _ cv), (10, .slice _ _ _)] ⟨rfl, rfl, rfl, trivial⟩ fun σ => ?_
          refine gseq fun N20 hN20 => ?_
          refine gseq fun N21 hN21 => ?_
          refine greg ?_
          refine gop (y_move (v := .slice Av _ cv) rfl) rfl rfl rfl ?_
          refine gop (y_len Tryd.underlying44 rfl) rfl rfl rfl ?_
          refine gop (y_move (v := .int _ _) rfl) rfl rfl rfl ?_
          refine gops_nil ?_
          refine hN21 _ _ ?_
          refine gfrom [(5, .pointer _), (7, .slice Av _ cv), (10, .slice _ _ _), (45, .slice Av _ cv), (46, .int _ _), (47, .int _ _)] ⟨rfl, rfl, rfl, rfl, rfl, rfl, trivial⟩ fun σ => ?_
          refine gblock ?_
          refine gnilrow gpCells 30 1 ?_
          refine gfrom2 [(10, .slice _ _ _), (47, .int _ _)] [(5, .pointer _), (7, .slice Av _ cv), (45, .slice Av _ cv), (46, .int _ _)] ⟨rfl, rfl, trivial⟩ ⟨rfl, rfl, rfl, rfl, trivial⟩ fun σ => ?_
          refine gloop2 (G := Nat × Option Addr × Nat × List GroupC) (fun (k, Bv, dv, og) => k ≤ gs.length ∧ gps og = reqTo (gps gs) k ∧ (∀ a ∈ og, a ∈ gs)) (fun (k, Bv, dv, og) => gs.length - k) (fun (k, Bv, dv, og) => [(10, .slice Bv og.length dv), (47, .int .i64 (k : Int))]) (fun (k, Bv, dv, og) => [(4, rowl gpCells w.heap.size 30 1 (.slice Bv og.length dv) (og))]) ((0, none, 0, [])) ?h0 ⟨rfl, rfl, trivial⟩ ⟨rfl, rfl, rfl, rfl, trivial⟩ rfl ?round
          case h0 => exact ⟨Nat.zero_le _, rfl, fun _ h => (by cases h)⟩
          case round =>
            rintro ⟨k, Bv, dv, og⟩ hφ σ
            obtain ⟨hk, ho, hin⟩ := hφ
            have hol : og.length ≤ k := by have h8 := congrArg List.length ho; have h9 := req_len (gps gs) k; simp only [List.length_map] at h8; omega
            refine gT [box b5 _, box b6 _, rowl _ _ _ _ _ _, fr, rowl _ _ _ _ _ _] rfl ?_
            refine gseq fun N22 hN22 => ?_
            refine greg ?_
            refine gop (y_lss rfl rfl) rfl rfl rfl ?_
            refine gops_nil ?_
            refine hN22 _ _ ?_
            refine gfrom [(5, .pointer _), (7, .slice Av _ cv), (10, .slice Bv _ dv), (45, .slice Av _ cv), (46, .int _ _), (47, .int _ _), (48, .bool _)] ⟨rfl, rfl, rfl, rfl, rfl, rfl, rfl, trivial⟩ fun σ => ?_
            refine gseq fun N23 hN23 => ?_
            refine gcond (b := _) rfl (fun hc48 => ?_) (fun hc48 => ?_)
            · 
              replace hc48 := of_decide_eq_true hc48
              have hk1 : k < gs.length := by omega
              refine g_fact (fun w hM => own_some (hM.own 2 rfl) (by omega)) ?_
              rintro ⟨rg2, cg2, hvg, hcvl, -⟩
              simp only [Value.slice.injEq] at hvg
              obtain ⟨rfl, -, rfl⟩ := hvg
              refine gskip ?_
              refine hN23 _ _ ?_
              refine gfrom [(5, .pointer _), (7, .slice (some ⟨rg2, 0, none⟩) _ _), (10, .slice Bv _ dv), (45, .slice (some ⟨rg2, 0, none⟩) _ _), (46, .int _ _), (47, .int _ _)] ⟨rfl, rfl, rfl, rfl, rfl, rfl, trivial⟩ fun σ => ?_
              refine gseq fun N24 hN24 => ?_
              refine gblock ?_
              refine gseq fun N25 hN25 => ?_
              refine greg ?_
              refine gop (y_move (v := .int _ _) rfl) rfl rfl rfl ?_
              refine gop (y_indexAddr (m := k) Tryd.underlying44 Tryd.sizeOf30 rfl rfl (by omega) (by omega) (by omega)) rfl rfl rfl ?_
              refine gop (y_load Tryd.isAgg30 rfl (cells_rowl 2 (f := gpCells) (l := gs) rfl rfl (fun _ => rfl) (List.getElem?_eq_getElem hk1) 0 _ rfl)) rfl rfl rfl ?_
              refine gop_alloc (cs := #[.slice none 0 0]) Tryd.zeroValue30 rfl rfl (fun b12 hb12 => ?_)
              refine gop (y_assign (v := .int _ _) rfl) rfl rfl rfl ?_
              refine gop_store 5 (v := .slice _ _ _) (cs' := #[_]) rfl rfl Tryd.sizeOf30 rfl rfl rfl rfl (Nat.le_of_ble_eq_true rfl) rfl rfl ?_
              refine gops_nil ?_
              refine hN25 _ _ ?_
              refine gT [box b5 _, box b6 _, rowl _ _ _ _ _ _, fr, rowl _ _ _ _ _ _, box b12 _] rfl ?_
              refine gfrom [(5, .pointer _), (7, .slice (some ⟨rg2, 0, none⟩) _ _), (10, .slice Bv _ dv), (11, .int _ _), (12, .pointer _), (45, .slice (some ⟨rg2, 0, none⟩) _ _), (46, .int _ _), (47, .int _ _)] ⟨rfl, rfl, rfl, rfl, rfl, rfl, rfl, rfl, trivial⟩ fun σ => ?_
              refine gseq fun N26 hN26 => ?_
              refine greg ?_
              refine gop (y_makeFunc (vs := [.pointer (some ⟨b12, 0, none⟩)]) rfl) rfl rfl rfl ?_
              refine gop (y_assign (v := .func (.func 51) #[] #[.pointer (some ⟨b12, 0, none⟩)]) rfl) rfl rfl rfl ?_
              refine gops_nil ?_
              refine hN26 _ _ ?_
              refine gfrom [(5, .pointer _), (7, .slice (some ⟨rg2, 0, none⟩) _ _), (10, .slice Bv _ dv), (11, .int _ _), (12, .pointer _), (13, .func (.func 51) #[] #[.pointer (some ⟨b12, 0, none⟩)]), (45, .slice (some ⟨rg2, 0, none⟩) _ _), (46, .int _ _), (47, .int _ _)] ⟨rfl, rfl, rfl, rfl, rfl, rfl, rfl, rfl, rfl, trivial⟩ fun σ => ?_
              refine gseq fun N27 hN27 => ?_
              refine greg ?_
              refine gop (y_makeFunc (vs := [.pointer (some ⟨b12, 0, none⟩)]) rfl) rfl rfl rfl ?_
              refine gop (y_assign (v := .func (.func 53) #[] #[.pointer (some ⟨b12, 0, none⟩)]) rfl) rfl rfl rfl ?_
              refine gops_nil ?_
              refine hN27 _ _ ?_
              refine gfrom [(5, .pointer _), (7, .slice (some ⟨rg2, 0, none⟩) _ _), (10, .slice Bv _ dv), (11, .int _ _), (12, .pointer _), (13, .func (.func 51) #[] #[.pointer (some ⟨b12, 0, none⟩)]), (14, .func (.func 53) #[] #[.pointer (some ⟨b12, 0, none⟩)]), (45, .slice (some ⟨rg2, 0, none⟩) _ _), (46, .int _ _), (47, .int _ _)] ⟨rfl, rfl, rfl, rfl, rfl, rfl, rfl, rfl, rfl, rfl, trivial⟩ fun σ => ?_
              refine gseq fun N28 hN28 => ?_
              refine greg ?_
              refine gop (y_load Tryd.isAgg30 rfl (cell_box 5 rfl rfl)) rfl rfl rfl ?_
              refine gop (y_len Tryd.underlying30 rfl) rfl rfl rfl ?_
              refine gop (y_gtr rfl rfl) rfl rfl rfl ?_
              refine gop (y_move (v := .bool _) rfl) rfl rfl rfl ?_
              refine gop_if (want := true) rfl rfl rfl rfl rfl rfl (fun hg57 => ?_) (fun hg57 => ?_)
              · 
                have hg57d := of_decide_eq_true hg57
                refine gop (y_bare (y_move (v := .slice (some ⟨rg2, 0, none⟩) _ _) rfl)) rfl rfl rfl ?_
                refine gop_on rfl rfl rfl rfl hg57 ?_
                refine gop (y_bare (y_move (v := .int _ _) rfl)) rfl rfl rfl ?_
                refine gop_on rfl rfl rfl rfl hg57 ?_
                refine gop (y_bare (y_trunc (m := k) Tryd.underlying44 Tryd.sizeOf30 rfl rfl (by omega) (by omega) rfl)) rfl rfl rfl ?_
                refine gop_on rfl rfl rfl rfl hg57 ?_
                refine gop (y_bare (y_move (v := .func (.func 51) #[] #[.pointer (some ⟨b12, 0, none⟩)]) rfl)) rfl rfl rfl ?_
                refine gop_on rfl rfl rfl rfl hg57 ?_
                refine gop_pure (e_call (vs := [.slice _ _ _, .func (.func 51) #[] #[.pointer (some ⟨b12, 0, none⟩)]]) Tryd.func55 rfl (by kernel_rfl) rfl) (fun w hM => by have hcl1 : ∀ k' (h : k' < (gs.take k).length) w1, Below w.heap.size w w1 → Calls Tryd.prog 51 (([.slice (gs.take k)[k'].A (gs.take k)[k'].pl.length (gs.take k)[k'].c] : List Value) ++ [Value.pointer (some ⟨b12, 0, none⟩)]).toArray w1 (fun e w2 => e = .returned (.bool ((fun x : List Int => decide (x = gs[k].pl)) (gs.take k)[k'].pl)) ∧ Below w1.heap.size w1 w2) := (fun k' hk' w1 hb1 => by have hM1 := hM.call hb1; have hg := hfr _ (hM1.ok _ (List.mem_of_getElem? (i := 3) rfl)) (gs.take k)[k'] (List.mem_of_mem_take (List.getElem_mem hk')); have hq := hfr _ (hM1.ok _ (List.mem_of_getElem? (i := 3) rfl)) gs[k] (List.getElem_mem hk1); exact req1_any w1 _ _ _ (hg.rd.mono (Nat.zero_le _)) (Nat.le_trans hg.len hg.max) b12 _ _ _ (hM1.cell 5 rfl rfl) (hq.rd.mono (Nat.zero_le _)) (Nat.le_trans hq.len hq.max)); have h2 : Rdl w 0 1 gpCells (some ⟨rg2, 0, none⟩) (gs.take k) := rdl_take ((row_rdl (f := gpCells) (fun _ => rfl) (hM.ok _ (List.mem_of_getElem? (i := 2) rfl))).mono (Nat.zero_le _)) k; have hc := contFuncG_any w _ cv (gs.take k) h2 (by simp [maxLen]; omega) k (by simp; omega) 51 _ Tryd.func51 (by kernel_rfl) (by kernel_rfl) [Value.pointer (some ⟨b12, 0, none⟩)] (fun x : List Int => decide (x = gs[k].pl)) hcl1; exact hc) rfl rfl rfl ?_
                refine gop_on rfl rfl rfl rfl hg57 ?_
                refine gop (y_bare (y_not rfl)) rfl rfl rfl ?_
                refine gop (y_pick_t (v := .bool _) rfl hg57 rfl) rfl rfl rfl ?_
                refine gop (y_move (v := .bool _) rfl) rfl rfl rfl ?_
                refine gop_if (want := true) rfl rfl rfl rfl rfl rfl (fun hg65 => ?_) (fun hg65 => ?_)
                · 
                  have hg65d := not_t hg65
                  refine gop (y_bare (y_move (v := .slice (some ⟨rg2, 0, none⟩) _ _) rfl)) rfl rfl rfl ?_
                  refine gop_on rfl rfl rfl rfl hg65 ?_
                  refine gop (y_bare (y_move (v := .func (.func 53) #[] #[.pointer (some ⟨b12, 0, none⟩)]) rfl)) rfl rfl rfl ?_
                  refine gop_on rfl rfl rfl rfl hg65 ?_
                  refine gop_pure (e_call (vs := [.slice (some ⟨rg2, 0, none⟩) _ _, .func (.func 53) #[] #[.pointer (some ⟨b12, 0, none⟩)]]) Tryd.func55 rfl (by kernel_rfl) rfl) (fun w hM => by have hcl2 : ∀ k' (h : k' < (gs).length) w1, Below w.heap.size w w1 → Calls Tryd.prog 53 (([.slice (gs)[k'].A (gs)[k'].pl.length (gs)[k'].c] : List Value) ++ [Value.pointer (some ⟨b12, 0, none⟩)]).toArray w1 (fun e w2 => e = .returned (.bool ((fun x : List Int => smallerL x gs[k].pl) (gs)[k'].pl)) ∧ Below w1.heap.size w1 w2) := (fun k' hk' w1 hb1 => by have hM1 := hM.call hb1; have hg := hfr _ (hM1.ok _ (List.mem_of_getElem? (i := 3) rfl)) (gs)[k'] (List.getElem_mem hk'); have hq := hfr _ (hM1.ok _ (List.mem_of_getElem? (i := 3) rfl)) gs[k] (List.getElem_mem hk1); exact req2_any w1 _ _ _ (hg.rd.mono (Nat.zero_le _)) (Nat.le_trans hg.len hg.max) b12 _ _ _ (hM1.cell 5 rfl rfl) (hq.rd.mono (Nat.zero_le _)) (Nat.le_trans hq.len hq.max)); have h2 : Rdl w 0 1 gpCells (some ⟨rg2, 0, none⟩) gs := (row_rdl (f := gpCells) (fun _ => rfl) (hM.ok _ (List.mem_of_getElem? (i := 2) rfl))).mono (Nat.zero_le _); have hc := contFuncG_any w _ cv gs h2 (by simp [maxLen]; omega) gs.length rfl 53 _ Tryd.func53 (by kernel_rfl) (by kernel_rfl) [Value.pointer (some ⟨b12, 0, none⟩)] (fun x : List Int => smallerL x gs[k].pl) hcl2; exact hc) rfl rfl rfl ?_
                  refine gop_on rfl rfl rfl rfl hg65 ?_
                  refine gop (y_bare (y_not rfl)) rfl rfl rfl ?_
                  refine gop (y_pick_t (v := .bool _) rfl hg65 rfl) rfl rfl rfl ?_
                  refine gops_nil ?_
                  refine hN28 _ _ ?_
                  refine gfrom [(5, .pointer _), (7, .slice (some ⟨rg2, 0, none⟩) _ _), (10, .slice Bv _ dv), (12, .pointer _), (45, .slice (some ⟨rg2, 0, none⟩) _ _), (46, .int _ _), (47, .int _ _), (70, .bool _)] ⟨rfl, rfl, rfl, rfl, rfl, rfl, rfl, rfl, trivial⟩ fun σ => ?_
                  refine gcond (b := _) rfl (fun hc70 => ?_) (fun hc70 => ?_)
                  · 
                    replace hc70 := not_t hc70
                    have hN : needG (gps gs) k = true := need_yes hk1 (by omega) hg65d hc70
                    refine greg ?_
                    refine gop (y_move (v := .slice Bv _ dv) rfl) rfl rfl rfl ?_
                    refine gop (y_load Tryd.isAgg30 rfl (cell_box 5 rfl rfl)) rfl rfl rfl ?_
                    refine gop_lit (vs := [.slice _ _ _]) (cells := #[_]) Tryd.underlying44 Tryd.sizeOf30 Tryd.zeroValue30 rfl (by decide) (by decide) rfl rfl rfl rfl (fun b73 hb73 => ?_)
                    refine gop_append 4 (f := gpCells) (l2 := [gs[k]]) Tryd.underlying44 el30 wide_gp (v := .slice Bv _ dv) rfl rfl rfl rfl (fun h => by cases h) (by simp [maxLen]; omega) (by simp; omega) (src_box 6 rfl rfl) rfl (fun v74 => ?_)
                    refine gops_fact (fun w hM => own_form (hM.own 4 rfl)) ?_
                    rintro ⟨A74, c74, rfl, hc74, hm74⟩
                    refine gop (y_assign (v := .slice A74 _ c74) rfl) rfl rfl rfl ?_
                    refine gops_nil ?_
                    refine hN24 _ _ ?_
                    refine gT [box b5 _, box b6 _, rowl _ _ _ _ _ _, fr, rowl _ _ _ _ _ _, box b12 _, box b73 _] rfl ?_
                    refine gfrom [(5, .pointer _), (7, .slice (some ⟨rg2, 0, none⟩) _ _), (10, .slice A74 _ c74), (45, .slice (some ⟨rg2, 0, none⟩) _ _), (46, .int _ _), (47, .int _ _)] ⟨rfl, rfl, rfl, rfl, rfl, rfl, trivial⟩ fun σ => ?_
                    refine greg ?_
                    refine gop (y_add rfl rfl ⟨by omega, by omega⟩) rfl rfl rfl ?_
                    refine gop (y_move (v := .int _ _) rfl) rfl rfl rfl ?_
                    refine gops_nil ?_
                    refine gnext2 ((k + 1, A74, c74, og ++ [gs[k]])) (by show gs.length - (k + 1) < gs.length - k; omega) (⟨by show k + 1 ≤ _; omega, req_gs_yes hk1 ho hN, fun a ha => (List.mem_append.1 ha).elim (hin a) (fun h1 => by rw [List.mem_singleton.1 h1]; exact List.getElem_mem hk1)⟩) ⟨rfl, rfl, trivial⟩ ⟨rfl, rfl, rfl, rfl, trivial⟩ ⟨_, rfl⟩
                  · 
                    replace hc70 := not_f hc70
                    have hN : needG (gps gs) k = false := by first | exact need_no1 hk1 (by omega) | exact need_no2 hk1 hg65d | exact need_no3 hk1 hc70
                    refine gskip ?_
                    refine hN24 _ _ ?_
                    refine gfrom [(5, .pointer _), (7, .slice (some ⟨rg2, 0, none⟩) _ _), (10, .slice Bv _ dv), (45, .slice (some ⟨rg2, 0, none⟩) _ _), (46, .int _ _), (47, .int _ _)] ⟨rfl, rfl, rfl, rfl, rfl, rfl, trivial⟩ fun σ => ?_
                    refine greg ?_
                    refine gop (y_add rfl rfl ⟨by omega, by omega⟩) rfl rfl rfl ?_
                    refine gop (y_move (v := .int _ _) rfl) rfl rfl rfl ?_
                    refine gops_nil ?_
                    refine gnext2 ((k + 1, Bv, dv, og)) (by show gs.length - (k + 1) < gs.length - k; omega) (⟨by show k + 1 ≤ _; omega, req_gs_no ho hN, hin⟩) ⟨rfl, rfl, trivial⟩ ⟨rfl, rfl, rfl, rfl, trivial⟩ ⟨_, rfl⟩
                · 
                  have hg65d := not_f hg65
                  refine gop_off rfl rfl rfl rfl hg65 rfl rfl ?_
                  refine gop_off rfl rfl rfl rfl hg65 rfl rfl ?_
                  refine gop_off rfl rfl rfl rfl hg65 rfl rfl ?_
                  refine gop (y_pick_f (v := .bool _) rfl hg65 rfl) rfl rfl rfl ?_
                  refine gops_nil ?_
                  refine hN28 _ _ ?_
                  refine gfrom [(5, .pointer _), (7, .slice (some ⟨rg2, 0, none⟩) _ _), (10, .slice Bv _ dv), (12, .pointer _), (45, .slice (some ⟨rg2, 0, none⟩) _ _), (46, .int _ _), (47, .int _ _), (70, .bool _)] ⟨rfl, rfl, rfl, rfl, rfl, rfl, rfl, rfl, trivial⟩ fun σ => ?_
                  refine gcond (b := _) rfl (fun hc70 => ?_) (fun hc70 => ?_)
                  · 
                    cases hc70
                  · 
                    have hN : needG (gps gs) k = false := by first | exact need_no1 hk1 (by omega) | exact need_no2 hk1 hg65d | exact need_no3 hk1 hc70
                    refine gskip ?_
                    refine hN24 _ _ ?_
                    refine gfrom [(5, .pointer _), (7, .slice (some ⟨rg2, 0, none⟩) _ _), (10, .slice Bv _ dv), (45, .slice (some ⟨rg2, 0, none⟩) _ _), (46, .int _ _), (47, .int _ _)] ⟨rfl, rfl, rfl, rfl, rfl, rfl, trivial⟩ fun σ => ?_
                    refine greg ?_
                    refine gop (y_add rfl rfl ⟨by omega, by omega⟩) rfl rfl rfl ?_
                    refine gop (y_move (v := .int _ _) rfl) rfl rfl rfl ?_
                    refine gops_nil ?_
                    refine gnext2 ((k + 1, Bv, dv, og)) (by show gs.length - (k + 1) < gs.length - k; omega) (⟨by show k + 1 ≤ _; omega, req_gs_no ho hN, hin⟩) ⟨rfl, rfl, trivial⟩ ⟨rfl, rfl, rfl, rfl, trivial⟩ ⟨_, rfl⟩
              · 
                have hg57d := of_decide_eq_false hg57
                refine gop_off rfl rfl rfl rfl hg57 rfl rfl ?_
                refine gop_off rfl rfl rfl rfl hg57 rfl rfl ?_
                refine gop_off rfl rfl rfl rfl hg57 rfl rfl ?_
                refine gop_off rfl rfl rfl rfl hg57 rfl rfl ?_
                refine gop_off rfl rfl rfl rfl hg57 rfl rfl ?_
                refine gop (y_pick_f (v := .bool _) rfl hg57 rfl) rfl rfl rfl ?_
                refine gop (y_move (v := .bool _) rfl) rfl rfl rfl ?_
                refine gop_off rfl rfl rfl rfl rfl rfl rfl ?_
                refine gop_off rfl rfl rfl rfl rfl rfl rfl ?_
                refine gop_off rfl rfl rfl rfl rfl rfl rfl ?_
                refine gop_off rfl rfl rfl rfl rfl rfl rfl ?_
                refine gop (y_pick_f (v := .bool _) rfl rfl rfl) rfl rfl rfl ?_
                refine gops_nil ?_
                refine hN28 _ _ ?_
                refine gfrom [(5, .pointer _), (7, .slice (some ⟨rg2, 0, none⟩) _ _), (10, .slice Bv _ dv), (12, .pointer _), (45, .slice (some ⟨rg2, 0, none⟩) _ _), (46, .int _ _), (47, .int _ _), (70, .bool _)] ⟨rfl, rfl, rfl, rfl, rfl, rfl, rfl, rfl, trivial⟩ fun σ => ?_
                refine gcond (b := _) rfl (fun hc70 => ?_) (fun hc70 => ?_)
                · 
                  cases hc70
                · 
                  have hN : needG (gps gs) k = false := by first | exact need_no1 hk1 (by omega) | exact need_no2 hk1 hg65d | exact need_no3 hk1 hc70
                  refine gskip ?_
                  refine hN24 _ _ ?_
                  refine gfrom [(5, .pointer _), (7, .slice (some ⟨rg2, 0, none⟩) _ _), (10, .slice Bv _ dv), (45, .slice (some ⟨rg2, 0, none⟩) _ _), (46, .int _ _), (47, .int _ _)] ⟨rfl, rfl, rfl, rfl, rfl, rfl, trivial⟩ fun σ => ?_
                  refine greg ?_
                  refine gop (y_add rfl rfl ⟨by omega, by omega⟩) rfl rfl rfl ?_
                  refine gop (y_move (v := .int _ _) rfl) rfl rfl rfl ?_
                  refine gops_nil ?_
                  refine gnext2 ((k + 1, Bv, dv, og)) (by show gs.length - (k + 1) < gs.length - k; omega) (⟨by show k + 1 ≤ _; omega, req_gs_no ho hN, hin⟩) ⟨rfl, rfl, trivial⟩ ⟨rfl, rfl, rfl, rfl, trivial⟩ ⟨_, rfl⟩
            · 
              replace hc48 := of_decide_eq_false hc48
              have hV : gps og = reqV (rls rs) ps := by rw [reqV, if_pos hFF, ← hgs, ← hgn, ho, show k = gs.length by omega]
              refine gexit ?_
              refine hN20 _ _ ?_
              refine gfrom [(5, .pointer _), (10, .slice Bv _ dv)] ⟨rfl, rfl, trivial⟩ fun σ => ?_
              refine gseq fun N29 hN29 => ?_
              refine greg ?_
              refine gop (y_move (v := .slice Bv _ dv) rfl) rfl rfl rfl ?_
              refine gop (y_build (vs := []) (cells := #[.int .i64 0, .int .i64 0]) rfl bd23_) rfl rfl rfl ?_
              refine gop (y_assign (v := .slice Bv _ dv) rfl) rfl rfl rfl ?_
              refine gop_store 0 (v := .agg #[_, _]) (cs' := #[_, _]) rfl rfl Tryd.sizeOf23 rfl rfl rfl rfl (Nat.le_of_ble_eq_true rfl) rfl rfl ?_
              refine gops_nil ?_
              refine hN29 _ _ ?_
              refine gT [box b5 _, box b6 _, rowl _ _ _ _ _ _, fr, rowl _ _ _ _ _ _] rfl ?_
              refine gfrom [(4, .slice Bv _ dv), (5, .pointer _)] ⟨rfl, rfl, trivial⟩ fun σ => ?_
              refine gret fun w1 hM => ?_
              refine ⟨_, res2 rfl (rt (v := .slice Bv _ dv) rfl) (rc 0 (cs := [_, _]) hM rfl rfl Tryd.isAgg23 Tryd.sizeOf23 rfl), ?_⟩
              exact ⟨_, _, og, fr, by rw [hFF], rfl, hV, fun w1 h1 a ha => hfr w1 h1 a (hin a ha), (weak_toend 3 rfl _ hM).dropTo 3 rfl⟩
end Go.Proofs.YtijpaljdclhehaaDoor
namespace Go.Proofs.YtijpaljdclhehaaDoor
open Go.RowKit Go.Cf
set_option maxRecDepth 10000
set_option maxHeartbeats 2000000 in
theorem within_any (w : World) (A : Option Addr) (c : Nat) (a : List Int) (ha : Rdl w 0 1 intCells A a) (han : a.length ≤ maxLen) (B : Option Addr) (d : Nat) (b : List Int) (hb : Rdl w 0 1 intCells B b) (hbn : b.length ≤ maxLen) : Calls Tryd.prog 26 #[.slice A a.length c, .slice B b.length d] w fun e w' => e = .returned (.bool (withinB a b)) ∧ Below w.heap.size w w' := by
  unfold maxLen at han hbn
  refine gcalls Tryd.func26 rfl Tryd.ntmps26 (Nat.le_of_ble_eq_true rfl) ?_
  refine gfrom [(0, .slice _ _ _), (1, .slice _ _ _)] ⟨rfl, rfl, trivial⟩ fun σ => ?_
  refine gseq fun N1 hN1 => ?_
  refine greg ?_
  refine gop (y_assign (v := .bool _) rfl) rfl rfl rfl ?_
  refine gops_nil ?_
  refine hN1 _ _ ?_
  refine gfrom [(0, .slice _ _ _), (1, .slice _ _ _)] ⟨rfl, rfl, trivial⟩ fun σ => ?_
  refine gseq fun N2 hN2 => ?_
  refine gseq fun N3 hN3 => ?_
  refine greg ?_
  refine gop (y_assign (v := .int _ _) rfl) rfl rfl rfl ?_
  refine gops_nil ?_
  refine hN3 _ _ ?_
  refine gfrom [(0, .slice _ _ _), (1, .slice _ _ _), (5, .int _ _)] ⟨rfl, rfl, rfl, trivial⟩ fun σ => ?_
  refine gblock ?_
  refine gfrom2 [(5, .int _ _)] [(0, .slice _ _ _), (1, .slice _ _ _)] ⟨rfl, trivial⟩ ⟨rfl, rfl, trivial⟩ fun σ => ?_
  refine gloop2 (G := Nat) (fun k => k ≤ a.length ∧ ∀ j (h : j < a.length), j < k → hasI b a[j] = true) (fun k => a.length - k) (fun k => [(5, .int .i64 (k : Int))]) (fun k => []) (0) ?h0 ⟨rfl, trivial⟩ ⟨rfl, rfl, trivial⟩ rfl ?round
  case h0 => exact ⟨Nat.zero_le _, fun _ _ h => absurd h (by omega)⟩
  case round =>
    intro k hφ σ
    obtain ⟨hk, hz⟩ := hφ
    refine gseq fun N4 hN4 => ?_
    refine gseq fun N5 hN5 => ?_
    refine greg ?_
    refine gop (y_move (v := .int _ _) rfl) rfl rfl rfl ?_
    refine gop (y_move (v := .slice _ _ _) rfl) rfl rfl rfl ?_
    refine gop (y_len Tryd.underlying30 rfl) rfl rfl rfl ?_
    refine gop (y_lss rfl rfl) rfl rfl rfl ?_
    refine gops_nil ?_
    refine hN5 _ _ ?_
    refine gfrom [(0, .slice _ _ _), (1, .slice _ _ _), (5, .int _ _), (11, .bool _)] ⟨rfl, rfl, rfl, rfl, trivial⟩ fun σ => ?_
    refine gcond (b := _) rfl (fun hc11 => ?_) (fun hc11 => ?_)
    · 
      replace hc11 := of_decide_eq_true hc11
      have hk1 : k < a.length := by omega
      obtain ⟨ad, rfl, -, hca⟩ := ha.at_ hk1
      refine gskip ?_
      refine hN4 _ _ ?_
      refine gfrom [(0, .slice _ _ _), (1, .slice _ _ _), (5, .int _ _)] ⟨rfl, rfl, rfl, trivial⟩ fun σ => ?_
      refine gseq fun N6 hN6 => ?_
      refine gblock ?_
      refine gseq fun N7 hN7 => ?_
      refine greg ?_
      refine gop (y_assign (v := .bool _) rfl) rfl rfl rfl ?_
      refine gops_nil ?_
      refine hN7 _ _ ?_
      refine gfrom [(0, .slice _ _ _), (1, .slice _ _ _), (5, .int _ _), (6, .bool _)] ⟨rfl, rfl, rfl, rfl, trivial⟩ fun σ => ?_
      refine gseq fun N8 hN8 => ?_
      refine gseq fun N9 hN9 => ?_
      refine greg ?_
      refine gop (y_assign (v := .int _ _) rfl) rfl rfl rfl ?_
      refine gops_nil ?_
      refine hN9 _ _ ?_
      refine gfrom [(0, .slice _ _ _), (1, .slice _ _ _), (5, .int _ _), (6, .bool _), (7, .int _ _)] ⟨rfl, rfl, rfl, rfl, rfl, trivial⟩ fun σ => ?_
      refine gblock ?_
      refine gfrom2 [(6, .bool _), (7, .int _ _)] [(0, .slice _ _ _), (1, .slice _ _ _), (5, .int _ _)] ⟨rfl, rfl, trivial⟩ ⟨rfl, rfl, rfl, trivial⟩ fun σ => ?_
      refine gloop2 (G := Nat) (fun j => j ≤ b.length) (fun j => b.length - j) (fun j => [(6, .bool (hasI (b.take j) a[k])), (7, .int .i64 (j : Int))]) (fun j => []) (0) ?h0 ⟨rfl, rfl, trivial⟩ ⟨rfl, rfl, rfl, trivial⟩ rfl ?round
      case h0 => exact Nat.zero_le _
      case round =>
        intro j hφ σ
        have hj : j ≤ b.length := hφ
        refine gseq fun N10 hN10 => ?_
        refine gseq fun N11 hN11 => ?_
        refine greg ?_
        refine gop (y_move (v := .int _ _) rfl) rfl rfl rfl ?_
        refine gop (y_move (v := .slice _ _ _) rfl) rfl rfl rfl ?_
        refine gop (y_len Tryd.underlying30 rfl) rfl rfl rfl ?_
        refine gop (y_lss rfl rfl) rfl rfl rfl ?_
        refine gops_nil ?_
        refine hN11 _ _ ?_
        refine gfrom [(0, .slice _ _ _), (1, .slice _ _ _), (5, .int _ _), (6, .bool _), (7, .int _ _), (17, .bool _)] ⟨rfl, rfl, rfl, rfl, rfl, rfl, trivial⟩ fun σ => ?_
        refine gcond (b := _) rfl (fun hc17 => ?_) (fun hc17 => ?_)
        · 
          replace hc17 := of_decide_eq_true hc17
          have hj1 : j < b.length := by omega
          obtain ⟨ad', rfl, -, hcb⟩ := hb.at_ hj1
          refine gskip ?_
          refine hN10 _ _ ?_
          refine gfrom [(0, .slice _ _ _), (1, .slice _ _ _), (5, .int _ _), (6, .bool _), (7, .int _ _)] ⟨rfl, rfl, rfl, rfl, rfl, trivial⟩ fun σ => ?_
          refine gseq fun N12 hN12 => ?_
          refine gblock ?_
          refine gseq fun N13 hN13 => ?_
          refine greg_q (by kernel_rfl) (by kernel_rfl) ?_
          refine gq (y_move (v := .slice _ _ _) rfl) rfl rfl rfl ?_
          refine gq (y_move (v := .int _ _) rfl) rfl rfl rfl ?_
          refine gq (y_indexAddr (m := k) Tryd.underlying30 Tryd.sizeOf3 rfl rfl (by omega) (by omega) (by omega)) rfl rfl rfl ?_
          refine gq (y_load Tryd.isAgg3 rfl (cell_base (hca 0 _ rfl))) rfl rfl rfl ?_
          refine gq (y_move (v := .slice _ _ _) rfl) rfl rfl rfl ?_
          refine gq (y_move (v := .int _ _) rfl) rfl rfl rfl ?_
          refine gq (y_indexAddr (m := j) Tryd.underlying30 Tryd.sizeOf3 rfl rfl (by omega) (by omega) (by omega)) rfl rfl rfl ?_
          refine gq (y_load Tryd.isAgg3 rfl (cell_base (hcb 0 _ rfl))) rfl rfl rfl ?_
          refine gq (y_eql rfl rfl) rfl rfl rfl ?_
          refine gqs_nil ?_
          refine hN13 _ _ ?_
          refine gfrom [(0, .slice _ _ _), (1, .slice _ _ _), (5, .int _ _), (6, .bool _), (7, .int _ _), (28, .bool _)] ⟨rfl, rfl, rfl, rfl, rfl, rfl, trivial⟩ fun σ => ?_
          refine gcond (b := _) rfl (fun hc28 => ?_) (fun hc28 => ?_)
          · 
            replace hc28 := of_decide_eq_true hc28
            refine greg ?_
            refine gop (y_assign (v := .bool _) rfl) rfl rfl rfl ?_
            refine gops_nil ?_
            refine hN12 _ _ ?_
            refine gfrom [(0, .slice _ _ _), (1, .slice _ _ _), (5, .int _ _), (6, .bool _), (7, .int _ _)] ⟨rfl, rfl, rfl, rfl, rfl, trivial⟩ fun σ => ?_
            refine greg ?_
            refine gop (y_move (v := .int _ _) rfl) rfl rfl rfl ?_
            refine gop (y_add rfl rfl ⟨by omega, by omega⟩) rfl rfl rfl ?_
            refine gop (y_assign (v := .int _ _) rfl) rfl rfl rfl ?_
            refine gops_nil ?_
            refine gnext2 (j + 1) (by omega) (show j + 1 ≤ _ by omega) ⟨congrArg Value.bool (by first | (rw [hasI_take hj1, decide_eq_true hc28]; simp) | (rw [hasI_take hj1, decide_eq_false hc28]; simp)), rfl, trivial⟩ ⟨rfl, rfl, rfl, trivial⟩ ⟨_, rfl⟩
          · 
            replace hc28 := of_decide_eq_false hc28
            refine gskip ?_
            refine hN12 _ _ ?_
            refine gfrom [(0, .slice _ _ _), (1, .slice _ _ _), (5, .int _ _), (6, .bool _), (7, .int _ _)] ⟨rfl, rfl, rfl, rfl, rfl, trivial⟩ fun σ => ?_
            refine greg ?_
            refine gop (y_move (v := .int _ _) rfl) rfl rfl rfl ?_
            refine gop (y_add rfl rfl ⟨by omega, by omega⟩) rfl rfl rfl ?_
            refine gop (y_assign (v := .int _ _) rfl) rfl rfl rfl ?_
            refine gops_nil ?_
            refine gnext2 (j + 1) (by omega) (show j + 1 ≤ _ by omega) ⟨congrArg Value.bool (by first | (rw [hasI_take hj1, decide_eq_true hc28]; simp) | (rw [hasI_take hj1, decide_eq_false hc28]; simp)), rfl, trivial⟩ ⟨rfl, rfl, rfl, trivial⟩ ⟨_, rfl⟩
        · 
          replace hc17 := of_decide_eq_false hc17
          have hfj : hasI (b.take j) a[k] = hasI b a[k] := by rw [List.take_of_length_le (by omega)]
          refine gexit ?_
          refine hN8 _ _ ?_
          refine gfrom [(0, .slice _ _ _), (1, .slice _ _ _), (5, .int _ _), (6, .bool _)] ⟨rfl, rfl, rfl, rfl, trivial⟩ fun σ => ?_
          refine gseq fun N14 hN14 => ?_
          refine greg ?_
          refine gop (y_move (v := .bool _) rfl) rfl rfl rfl ?_
          refine gop (y_not rfl) rfl rfl rfl ?_
          refine gops_nil ?_
          refine hN14 _ _ ?_
          refine gfrom [(0, .slice _ _ _), (1, .slice _ _ _), (5, .int _ _), (30, .bool _)] ⟨rfl, rfl, rfl, rfl, trivial⟩ fun σ => ?_
          refine gcond (b := _) rfl (fun hc30 => ?_) (fun hc30 => ?_)
          · 
            replace hc30 := not_t hc30
            refine gseq fun N15 hN15 => ?_
            refine greg ?_
            refine gop (y_assign (v := .bool _) rfl) rfl rfl rfl ?_
            refine gops_nil ?_
            refine hN15 _ _ ?_
            refine gfrom [(4, .bool _)] ⟨rfl, trivial⟩ fun σ => ?_
            refine gret fun w1 hM => ?_
            refine ⟨_, res1 rfl (rt (v := .bool _) rfl), ?_⟩
            exact ⟨by rw [withinB_no hk1 (by rw [← hfj]; exact hc30)], hM.low⟩
          · 
            replace hc30 := not_f hc30
            refine gskip ?_
            refine hN6 _ _ ?_
            refine gfrom [(0, .slice _ _ _), (1, .slice _ _ _), (5, .int _ _)] ⟨rfl, rfl, rfl, trivial⟩ fun σ => ?_
            refine greg ?_
            refine gop (y_move (v := .int _ _) rfl) rfl rfl rfl ?_
            refine gop (y_add rfl rfl ⟨by omega, by omega⟩) rfl rfl rfl ?_
            refine gop (y_assign (v := .int _ _) rfl) rfl rfl rfl ?_
            refine gops_nil ?_
            refine gnext2 (k + 1) (by omega) (⟨by omega, fun j h hj => by rcases Nat.lt_succ_iff_lt_or_eq.1 hj with h1 | rfl; exact hz j h h1; rw [← hfj]; exact hc30⟩) ⟨rfl, trivial⟩ ⟨rfl, rfl, trivial⟩ ⟨_, rfl⟩
    · 
      replace hc11 := of_decide_eq_false hc11
      refine gexit ?_
      refine hN2 _ _ ?_
      refine gfrom [] trivial fun σ => ?_
      refine gseq fun N16 hN16 => ?_
      refine greg ?_
      refine gop (y_assign (v := .bool _) rfl) rfl rfl rfl ?_
      refine gops_nil ?_
      refine hN16 _ _ ?_
      refine gfrom [(4, .bool _)] ⟨rfl, trivial⟩ fun σ => ?_
      refine gret fun w1 hM => ?_
      refine ⟨_, res1 rfl (rt (v := .bool _) rfl), ?_⟩
      exact ⟨by rw [withinB_yes (fun j h => hz j h (by omega))], hM.low⟩
end Go.Proofs.YtijpaljdclhehaaDoor
namespace Go.Proofs.YtijpaljdclhehaaDoor
open Go.RowKit Go.Cf
set_option maxRecDepth 10000
set_option maxHeartbeats 4000000 in
theorem law25_any (w : World) (A : Option Addr) (c : Nat) (rs : List RuleC) (hR : RulesR w 0 A c rs) (PA : Option Addr) (pc : Nat) (ps : List ByteArray) (hps : Rdl w 0 1 strCells PA ps) (hpl : ps.length ≤ pc) (hpm : pc ≤ maxLen) : Calls Tryd.prog 9 #[.slice A rs.length c, .slice PA ps.length pc] w fun e w' => e = .returned (.bool true) ∧ Below w.heap.size w w' := by
  have hln := hR.sb.len
  have hmx := hR.sb.max
  unfold maxLen at hmx
  have hpn : ps.length ≤ 9223372036854775807 := by have h9 := Nat.le_trans hpl hpm; unfold maxLen at h9; omega
  refine gcalls Tryd.func9 rfl Tryd.ntmps9 (Nat.le_of_ble_eq_true rfl) ?_
  refine gfrom [(0, .slice _ _ _), (1, .slice _ _ _)] ⟨rfl, rfl, trivial⟩ fun σ => ?_
  refine gseq fun N1 hN1 => ?_
  refine greg ?_
  refine gop (y_assign (v := .bool _) rfl) rfl rfl rfl ?_
  refine gops_nil ?_
  refine hN1 _ _ ?_
  refine gfrom [(0, .slice _ _ _), (1, .slice _ _ _)] ⟨rfl, rfl, trivial⟩ fun σ => ?_
  refine gseq fun N2 hN2 => ?_
  refine greg ?_
  refine gop (y_move (v := .slice _ _ _) rfl) rfl rfl rfl ?_
  refine gop (y_move (v := .slice _ _ _) rfl) rfl rfl rfl ?_
  refine gop_got (fun v T' => ∃ v1 og fr lo, w.heap.size ≤ lo ∧ v = .tuple #[v1, fv (reqF (rls rs) ps)] ∧ T' = [rowl gpCells lo 30 1 (v1) (og), fr] ∧ gps og = reqV (rls rs) ps ∧ ∀ w1, fr.ok w1 → ∀ a ∈ og, GrR w1 0 a) (e_call (vs := [.slice _ _ _, .slice _ _ _]) Tryd.func24 rfl (by kernel_rfl) rfl) (fun w hM => by have hc := required_any w A c rs (RulesR.lasts.base hR hM) PA pc ps (hps.base hM) hpl hpm; exact hc.mono fun _ _ ⟨v, T1, og, fr, h1, h2, h3, h4, h5⟩ => ⟨_, T1, h1, ⟨v, og, fr, _, hM.low.size, rfl, h2, h3, fun w1 ho a ha => (h4 w1 ho a ha).mono (Nat.zero_le _)⟩, h5⟩) rfl rfl rfl ?_
  rintro _ _ ⟨v12, og, fr, lo12, hlo12, rfl, rfl, hog, hfr⟩
  refine gops_fact (fun w hM => row_form (hM.ok _ (List.mem_of_getElem? (i := 0) rfl))) ?_
  rintro ⟨A12, c12, rfl, hc12, hm12, hn12⟩
  have hogm := Nat.le_trans hc12 hm12
  unfold maxLen at hogm
  refine gop (y_move (v := .tuple #[.slice A12 _ c12, .agg #[_, _]]) rfl) rfl rfl rfl ?_
  refine gop (y_extract (v := .slice _ _ _) rfl rfl) rfl rfl rfl ?_
  refine gop (y_extract (v := .agg #[_, _]) rfl rfl) rfl rfl rfl ?_
  refine gop_alloc (cs := #[.int .i64 0, .int .i64 0]) Tryd.zeroValue23 rfl rfl (fun b6 hb6 => ?_)
  refine gop (y_assign (v := .slice _ _ _) rfl) rfl rfl rfl ?_
  refine gop_store 2 (v := .agg #[_, _]) (cs' := #[_, _]) rfl rfl Tryd.sizeOf23 rfl rfl rfl rfl (Nat.le_of_ble_eq_true rfl) rfl rfl ?_
  refine gops_nil ?_
  refine hN2 _ _ ?_
  refine gT [rowl _ _ _ _ _ _, fr, box b6 _] rfl ?_
  refine gfrom [(5, .slice _ _ _), (6, .pointer _)] ⟨rfl, rfl, trivial⟩ fun σ => ?_
  refine gseq fun N3 hN3 => ?_
  refine gseq fun N4 hN4 => ?_
  refine greg ?_
  refine gop_pure (e_call (vs := []) Tryd.func19 rfl (by kernel_rfl) rfl) (fun w hM => ownersExample_any w) rfl rfl rfl ?_
  refine gop (y_not rfl) rfl rfl rfl ?_
  refine gops_nil ?_
  refine hN4 _ _ ?_
  refine gfrom [(5, .slice _ _ _), (6, .pointer _), (16, .bool _)] ⟨rfl, rfl, rfl, trivial⟩ fun σ => ?_
  refine gcond (b := _) rfl (fun hc16 => ?_) (fun hc16 => ?_)
  · 
     exact absurd hc16 (by decide)
  · 
    replace hc16 := not_f hc16
    refine gskip ?_
    refine hN3 _ _ ?_
    refine gfrom [(5, .slice _ _ _), (6, .pointer _)] ⟨rfl, rfl, trivial⟩ fun σ => ?_
    refine gseq fun N5 hN5 => ?_
    refine gseq fun N6 hN6 => ?_
    refine greg ?_
    refine gop (y_assign (v := .int _ _) rfl) rfl rfl rfl ?_
    refine gops_nil ?_
    refine hN6 _ _ ?_
    refine gfrom [(5, .slice _ _ _), (6, .pointer _), (7, .int _ _)] ⟨rfl, rfl, rfl, trivial⟩ fun σ => ?_
    refine gblock ?_
    refine gfrom2 [(7, .int _ _)] [(5, .slice _ _ _), (6, .pointer _)] ⟨rfl, trivial⟩ ⟨rfl, rfl, trivial⟩ fun σ => ?_
    refine gloop2 (G := Nat) (fun i => i ≤ og.length) (fun i => og.length - i) (fun i => [(7, .int .i64 (i : Int))]) (fun i => []) (0) ?h0 ⟨rfl, trivial⟩ ⟨rfl, rfl, trivial⟩ rfl ?round
    case h0 => exact Nat.zero_le _
    case round =>
      intro i hφ σ
      have hi : i ≤ og.length := hφ
      refine gseq fun N7 hN7 => ?_
      refine gseq fun N8 hN8 => ?_
      refine greg ?_
      refine gop (y_fieldAddr_box fa23_0 rfl) rfl rfl rfl ?_
      refine gop (y_load Tryd.isAgg3 rfl (cell_box 2 rfl rfl)) rfl rfl rfl ?_
      refine gop (y_eql rfl rfl) rfl rfl rfl ?_
      refine gop (y_move (v := .bool _) rfl) rfl rfl rfl ?_
      refine gop_if (want := true) rfl rfl rfl rfl rfl rfl (fun hg20 => ?_) (fun hg20 => ?_)
      · 
        have hg20d := of_decide_eq_true hg20
        refine gop (y_bare (y_move (v := .int _ _) rfl)) rfl rfl rfl ?_
        refine gop_on rfl rfl rfl rfl hg20 ?_
        refine gop (y_bare (y_move (v := .slice _ _ _) rfl)) rfl rfl rfl ?_
        refine gop_on rfl rfl rfl rfl hg20 ?_
        refine gop (y_bare (y_len Tryd.underlying44 rfl)) rfl rfl rfl ?_
        refine gop_on rfl rfl rfl rfl hg20 ?_
        refine gop (y_bare (y_lss rfl rfl)) rfl rfl rfl ?_
        refine gop (y_pick_t (v := .bool _) rfl hg20 rfl) rfl rfl rfl ?_
        refine gops_nil ?_
        refine hN8 _ _ ?_
        refine gfrom [(5, .slice _ _ _), (6, .pointer _), (7, .int _ _), (25, .bool _)] ⟨rfl, rfl, rfl, rfl, trivial⟩ fun σ => ?_
        refine gcond (b := _) rfl (fun hc25 => ?_) (fun hc25 => ?_)
        · 
          replace hc25 := of_decide_eq_true hc25
          have hi1 : i < og.length := by omega
          have hpos := law25_pos hog hi1
          refine g_fact (fun w hM => own_some (hM.own 0 rfl) (by omega)) ?_
          rintro ⟨rg0, cg0, hvg, -, -⟩
          simp only [Value.slice.injEq] at hvg
          obtain ⟨rfl, -, rfl⟩ := hvg
          refine gskip ?_
          refine hN7 _ _ ?_
          refine gfrom [(5, .slice _ _ _), (6, .pointer _), (7, .int _ _)] ⟨rfl, rfl, rfl, trivial⟩ fun σ => ?_
          refine gseq fun N9 hN9 => ?_
          refine gblock ?_
          refine gseq fun N10 hN10 => ?_
          refine gseq fun N11 hN11 => ?_
          refine greg ?_
          refine gop (y_move (v := .slice _ _ _) rfl) rfl rfl rfl ?_
          refine gop (y_move (v := .int _ _) rfl) rfl rfl rfl ?_
          refine gop (y_indexAddr (m := i) Tryd.underlying44 Tryd.sizeOf30 rfl rfl (by omega) (by omega) (by omega)) rfl rfl rfl ?_
          refine gop (y_load Tryd.isAgg30 rfl (cells_rowl 0 (f := gpCells) (l := og) rfl rfl (fun _ => rfl) (List.getElem?_eq_getElem hi1) 0 _ rfl)) rfl rfl rfl ?_
          refine gop (y_len Tryd.underlying30 rfl) rfl rfl rfl ?_
          refine gop (y_eql rfl rfl) rfl rfl rfl ?_
          refine gops_nil ?_
          refine hN11 _ _ ?_
          refine gfrom [(5, .slice _ _ _), (6, .pointer _), (7, .int _ _), (33, .bool _)] ⟨rfl, rfl, rfl, rfl, trivial⟩ fun σ => ?_
          refine gcond (b := _) rfl (fun hc33 => ?_) (fun hc33 => ?_)
          · 
             exact absurd (of_decide_eq_true hc33) (by omega)
          · 
            replace hc33 := of_decide_eq_false hc33
            refine gskip ?_
            refine hN10 _ _ ?_
            refine gfrom [(5, .slice _ _ _), (6, .pointer _), (7, .int _ _)] ⟨rfl, rfl, rfl, trivial⟩ fun σ => ?_
            refine gseq fun N12 hN12 => ?_
            refine greg ?_
            refine gop (y_assign (v := .int _ _) rfl) rfl rfl rfl ?_
            refine gops_nil ?_
            refine hN12 _ _ ?_
            refine gfrom [(5, .slice _ _ _), (6, .pointer _), (7, .int _ _), (8, .int _ _)] ⟨rfl, rfl, rfl, rfl, trivial⟩ fun σ => ?_
            refine gblock ?_
            refine gfrom2 [(8, .int _ _)] [(5, .slice _ _ _), (6, .pointer _), (7, .int _ _)] ⟨rfl, trivial⟩ ⟨rfl, rfl, rfl, trivial⟩ fun σ => ?_
            refine gloop2 (G := Nat) (fun k => k ≤ og.length) (fun k => og.length - k) (fun k => [(8, .int .i64 (k : Int))]) (fun k => []) (0) ?h0 ⟨rfl, trivial⟩ ⟨rfl, rfl, rfl, trivial⟩ rfl ?round
            case h0 => exact Nat.zero_le _
            case round =>
              intro k hφ σ
              have hk : k ≤ og.length := hφ
              refine gseq fun N13 hN13 => ?_
              refine gseq fun N14 hN14 => ?_
              refine greg ?_
              refine gop (y_move (v := .int _ _) rfl) rfl rfl rfl ?_
              refine gop (y_move (v := .slice _ _ _) rfl) rfl rfl rfl ?_
              refine gop (y_len Tryd.underlying44 rfl) rfl rfl rfl ?_
              refine gop (y_lss rfl rfl) rfl rfl rfl ?_
              refine gops_nil ?_
              refine hN14 _ _ ?_
              refine gfrom [(5, .slice _ _ _), (6, .pointer _), (7, .int _ _), (8, .int _ _), (37, .bool _)] ⟨rfl, rfl, rfl, rfl, rfl, trivial⟩ fun σ => ?_
              refine gcond (b := _) rfl (fun hc37 => ?_) (fun hc37 => ?_)
              · 
                replace hc37 := of_decide_eq_true hc37
                have hk1 : k < og.length := by omega
                refine gskip ?_
                refine hN13 _ _ ?_
                refine gfrom [(5, .slice _ _ _), (6, .pointer _), (7, .int _ _), (8, .int _ _)] ⟨rfl, rfl, rfl, rfl, trivial⟩ fun σ => ?_
                refine gseq fun N15 hN15 => ?_
                refine gblock ?_
                refine gseq fun N16 hN16 => ?_
                refine greg_q (by kernel_rfl) (by kernel_rfl) ?_
                refine gq (y_move (v := .int _ _) rfl) rfl rfl rfl ?_
                refine gq (y_move (v := .int _ _) rfl) rfl rfl rfl ?_
                refine gq (y_neq rfl rfl) rfl rfl rfl ?_
                refine gq (y_move (v := .bool _) rfl) rfl rfl rfl ?_
                refine gq_if (want := true) rfl rfl rfl rfl rfl rfl (fun hg43 => ?_) (fun hg43 => ?_)
                · 
                  have hg43d := of_decide_eq_true hg43
                  refine gq (y_bare (y_move (v := .slice _ _ _) rfl)) rfl rfl rfl ?_
                  refine gq_on rfl rfl rfl rfl hg43 ?_
                  refine gq (y_bare (y_move (v := .int _ _) rfl)) rfl rfl rfl ?_
                  refine gq_on rfl rfl rfl rfl hg43 ?_
                  refine gq (y_bare (y_indexAddr (m := i) Tryd.underlying44 Tryd.sizeOf30 rfl rfl (by omega) (by omega) (by omega))) rfl rfl rfl ?_
                  refine gq_on rfl rfl rfl rfl hg43 ?_
                  refine gq (y_bare (y_load Tryd.isAgg30 rfl (cells_rowl 0 (f := gpCells) (l := og) rfl rfl (fun _ => rfl) (List.getElem?_eq_getElem hi1) 0 _ rfl))) rfl rfl rfl ?_
                  refine gq_on rfl rfl rfl rfl hg43 ?_
                  refine gq (y_bare (y_move (v := .slice _ _ _) rfl)) rfl rfl rfl ?_
                  refine gq_on rfl rfl rfl rfl hg43 ?_
                  refine gq (y_bare (y_move (v := .int _ _) rfl)) rfl rfl rfl ?_
                  refine gq_on rfl rfl rfl rfl hg43 ?_
                  refine gq (y_bare (y_indexAddr (m := k) Tryd.underlying44 Tryd.sizeOf30 rfl rfl (by omega) (by omega) (by omega))) rfl rfl rfl ?_
                  refine gq_on rfl rfl rfl rfl hg43 ?_
                  refine gq (y_bare (y_load Tryd.isAgg30 rfl (cells_rowl 0 (f := gpCells) (l := og) rfl rfl (fun _ => rfl) (List.getElem?_eq_getElem hk1) 0 _ rfl))) rfl rfl rfl ?_
                  refine gq_on rfl rfl rfl rfl hg43 ?_
                  refine gq_pure (e_call (vs := [.slice _ _ _, .slice _ _ _]) Tryd.func26 rfl (by kernel_rfl) rfl) (fun w hM => by have hg := (hfr w (hM.ok _ (List.mem_of_getElem? (i := 1) rfl)) og[i] (List.getElem_mem hi1)); have hq := (hfr w (hM.ok _ (List.mem_of_getElem? (i := 1) rfl)) og[k] (List.getElem_mem hk1)); exact within_any w _ _ og[i].pl hg.rd (Nat.le_trans hg.len hg.max) _ _ og[k].pl hq.rd (Nat.le_trans hq.len hq.max)) rfl rfl rfl ?_
                  refine gq (y_pick_t (v := .bool _) rfl hg43 rfl) rfl rfl rfl ?_
                  refine gqs_nil ?_
                  refine hN16 _ _ ?_
                  refine gfrom [(5, .slice _ _ _), (6, .pointer _), (7, .int _ _), (8, .int _ _), (53, .bool _)] ⟨rfl, rfl, rfl, rfl, rfl, trivial⟩ fun σ => ?_
                  refine gcond (b := _) rfl (fun hc53 => ?_) (fun hc53 => ?_)
                  · 
                     first | (rw [law25_at hog hg20d hi1 hk1 (by omega)] at hc53; cases hc53) | cases hc53
                  · 
                    refine gskip ?_
                    refine hN15 _ _ ?_
                    refine gfrom [(5, .slice _ _ _), (6, .pointer _), (7, .int _ _), (8, .int _ _)] ⟨rfl, rfl, rfl, rfl, trivial⟩ fun σ => ?_
                    refine greg ?_
                    refine gop (y_move (v := .int _ _) rfl) rfl rfl rfl ?_
                    refine gop (y_add rfl rfl ⟨by omega, by omega⟩) rfl rfl rfl ?_
                    refine gop (y_assign (v := .int _ _) rfl) rfl rfl rfl ?_
                    refine gops_nil ?_
                    refine gnext2 (k + 1) (by omega) (show k + 1 ≤ _ by omega) ⟨rfl, trivial⟩ ⟨rfl, rfl, rfl, trivial⟩ ⟨_, rfl⟩
                · 
                  have hg43d := Decidable.not_not.1 (of_decide_eq_false hg43)
                  refine gq_off rfl rfl rfl rfl hg43 rfl rfl ?_
                  refine gq_off rfl rfl rfl rfl hg43 rfl rfl ?_
                  refine gq_off rfl rfl rfl rfl hg43 rfl rfl ?_
                  refine gq_off rfl rfl rfl rfl hg43 rfl rfl ?_
                  refine gq_off rfl rfl rfl rfl hg43 rfl rfl ?_
                  refine gq_off rfl rfl rfl rfl hg43 rfl rfl ?_
                  refine gq_off rfl rfl rfl rfl hg43 rfl rfl ?_
                  refine gq_off rfl rfl rfl rfl hg43 rfl rfl ?_
                  refine gq (y_pick_f (v := .bool _) rfl hg43 rfl) rfl rfl rfl ?_
                  refine gqs_nil ?_
                  refine hN16 _ _ ?_
                  refine gfrom [(5, .slice _ _ _), (6, .pointer _), (7, .int _ _), (8, .int _ _), (53, .bool _)] ⟨rfl, rfl, rfl, rfl, rfl, trivial⟩ fun σ => ?_
                  refine gcond (b := _) rfl (fun hc53 => ?_) (fun hc53 => ?_)
                  · 
                    cases hc53
                  · 
                    refine gskip ?_
                    refine hN15 _ _ ?_
                    refine gfrom [(5, .slice _ _ _), (6, .pointer _), (7, .int _ _), (8, .int _ _)] ⟨rfl, rfl, rfl, rfl, trivial⟩ fun σ => ?_
                    refine greg ?_
                    refine gop (y_move (v := .int _ _) rfl) rfl rfl rfl ?_
                    refine gop (y_add rfl rfl ⟨by omega, by omega⟩) rfl rfl rfl ?_
                    refine gop (y_assign (v := .int _ _) rfl) rfl rfl rfl ?_
                    refine gops_nil ?_
                    refine gnext2 (k + 1) (by omega) (show k + 1 ≤ _ by omega) ⟨rfl, trivial⟩ ⟨rfl, rfl, rfl, trivial⟩ ⟨_, rfl⟩
              · 
                replace hc37 := of_decide_eq_false hc37
                refine gexit ?_
                refine hN9 _ _ ?_
                refine gfrom [(5, .slice _ _ _), (6, .pointer _), (7, .int _ _)] ⟨rfl, rfl, rfl, trivial⟩ fun σ => ?_
                refine greg ?_
                refine gop (y_move (v := .int _ _) rfl) rfl rfl rfl ?_
                refine gop (y_add rfl rfl ⟨by omega, by omega⟩) rfl rfl rfl ?_
                refine gop (y_assign (v := .int _ _) rfl) rfl rfl rfl ?_
                refine gops_nil ?_
                refine gnext2 (i + 1) (by omega) (show i + 1 ≤ _ by omega) ⟨rfl, trivial⟩ ⟨rfl, rfl, trivial⟩ ⟨_, rfl⟩
        · 
          replace hc25 := of_decide_eq_false hc25
          refine gexit ?_
          refine hN5 _ _ ?_
          refine gfrom [] trivial fun σ => ?_
          refine gseq fun N17 hN17 => ?_
          refine greg ?_
          refine gop (y_assign (v := .bool _) rfl) rfl rfl rfl ?_
          refine gops_nil ?_
          refine hN17 _ _ ?_
          refine gfrom [(4, .bool _)] ⟨rfl, trivial⟩ fun σ => ?_
          refine gret fun w1 hM => ?_
          refine ⟨_, res1 rfl (rt (v := .bool _) rfl), ?_⟩
          exact ⟨rfl, hM.low⟩
      · 
        have hg20d := of_decide_eq_false hg20
        refine gop_off rfl rfl rfl rfl hg20 rfl rfl ?_
        refine gop_off rfl rfl rfl rfl hg20 rfl rfl ?_
        refine gop_off rfl rfl rfl rfl hg20 rfl rfl ?_
        refine gop (y_pick_f (v := .bool _) rfl hg20 rfl) rfl rfl rfl ?_
        refine gops_nil ?_
        refine hN8 _ _ ?_
        refine gfrom [(5, .slice _ _ _), (6, .pointer _), (7, .int _ _), (25, .bool _)] ⟨rfl, rfl, rfl, rfl, trivial⟩ fun σ => ?_
        refine gcond (b := _) rfl (fun hc25 => ?_) (fun hc25 => ?_)
        · 
          cases hc25
        · 
          refine gexit ?_
          refine hN5 _ _ ?_
          refine gfrom [] trivial fun σ => ?_
          refine gseq fun N18 hN18 => ?_
          refine greg ?_
          refine gop (y_assign (v := .bool _) rfl) rfl rfl rfl ?_
          refine gops_nil ?_
          refine hN18 _ _ ?_
          refine gfrom [(4, .bool _)] ⟨rfl, trivial⟩ fun σ => ?_
          refine gret fun w1 hM => ?_
          refine ⟨_, res1 rfl (rt (v := .bool _) rfl), ?_⟩
          exact ⟨rfl, hM.low⟩
end Go.Proofs.YtijpaljdclhehaaDoor
namespace Go.Cf
open Go.ChangeShapes Go.WideShapes Go.ChangeAt Go.RowKit Go.Deep
theorem law_lift_row {H : Type} {enc : TypeId × Value → H} {C : Checked} {os : Os} {f : FuncId} {fn : Func} {s : OpenSpec} {F : Stop.Interp} {conds : List PathCond} {tb : TypeId} {laid : List (String × DataW Unit)}
    (own : ownKnob C.prog.godebug = none) (started : os.Started) (noInit : C.prog.inits.idxOf? f = none) (hfn : C.prog.funcs[f]? = some fn)
    (witness : ∃ (w : World) (tape : Tape) (i : Input), w.os = os ∧ (w.forCall tape i).Shaped C.prog ∧ i.vars = [] ∧ Input.okWide C.prog (w.forCall tape i) .any w.heap.size f i ∧
      s.preRow enc C.prog fn conds false laid (w.forCall tape i).memory i.args ∧ Assume.holds {} C.prog (lone (Frame.enter C.prog f i.args .normal) [] (w.forCall tape i)))
    (hl : laidOutB C.prog = true) (hread : (fn.params.toList.all fun t => C.prog.readableRec t && decide (t < C.prog.types.size)) = true) (hres : fn.resultTypes = #[tb]) (htb : C.prog.underlying tb = some .bool) (hvars : s.vars = []) (hvars0 : (s.at F).vars = []) (hvt : s.bare.plain.varTypes C.prog = [])
    (hspec : ∀ ds : List (DataW H), ds.length = fn.params.size → ((s.at F).fn H (ds ++ [])).results = [.lit (.bool true)] ∧ ((s.at F).fn H (ds ++ [])).args = ds ∧ ((s.at F).fn H (ds ++ [])).vars = [])
    (contract : ∀ (W : World) (base : Nat) (args : Array Value) (ds : List (DataW H)) (p : List MemPlace),
      (∀ (j : Nat) t v, fn.params[j]? = some t → args[j]? = some v → Value.okWide C.prog W .any base t v) → DataW.TrodAll enc C.prog W 0 (fun _ => true) true fn.params.toList args.toList ds p →
      (DataW.weightsEach C.prog fn.params.toList ds).all (· ≤ reachBytes) = true → (∀ k, s.cond = some k → k H ds = true) → laidMetH C.prog laid W →
      Calls C.prog f args W fun e W' => e = .returned (.bool true) ∧ Below W.heap.size W W') :
    ReturnsInHanded {} C os f .any (s.preRow enc C.prog fn conds false laid) ((s.at F).post enc C.prog fn false true false false) := by
  refine returnsInHanded_of_row own started noInit hfn witness ?_
  intro W base args ds gs before hval hW _ hkk hsz hL _ _
  have hW' := hW
  obtain ⟨p, q, hA, hV, rfl, _, _⟩ := hW
  rw [hvars] at hV
  obtain ⟨rfl, rfl⟩ := trodVars_none hV
  have hlen : ds.length = fn.params.size := by
    have key : ∀ (ts : List TypeId) (vs : List Value) (ds : List (DataW H)) (p : List MemPlace), DataW.TrodAll enc C.prog W 0 (fun _ => true) true ts vs ds p → ds.length = ts.length := by
      intro ts
      induction ts with
      | nil => intro vs ds p h; obtain ⟨_, rfl, _⟩ := trodAll_nil h; rfl
      | cons t ts ih => intro vs ds p h; obtain ⟨v, vs', d, ds', p, q, rfl, rfl, rfl, _, h2⟩ := trodAll_cons h; simp [ih _ _ _ h2]
    rw [key _ _ _ _ hA]; simp
  have hw : (DataW.weightsEach C.prog fn.params.toList ds).all (· ≤ reachBytes) = true := by
    simpa [hvt] using hsz
  refine (contract W base args ds p hval hA hw (fun k hk => by simpa using hkk k hk) hL).mono fun e W' ⟨he, bel⟩ => ?_
  subst he
  obtain ⟨h1, h2, h3⟩ := hspec ds hlen
  have hr : ∀ t ∈ fn.params.toList, C.prog.readableRec t = true ∧ t < C.prog.types.size := by
    intro t ht
    have := List.all_eq_true.1 hread t ht
    simpa using this
  refine ⟨_, rfl, ds, [], p ++ [], [], p, [], hW', ?_, ?_, ?_, World.keptBut_mono (fun x hx => ⟨hx, ?_⟩) (bel.frame (· ∈ p ++ [])), fun h => by cases h⟩
  · rw [h1, hres]; exact trodAll_mk1 (shut_bool htb _)
  · rw [h2]; exact trodAll_below hl bel hr hA
  · rw [h3, hvars0]; rfl
  · right; left; simpa using hx
end Go.Cf
namespace Go.Proofs.YtijpaljdclhehaaDoor
open Go.ChangeShapes Go.WideShapes Go.ChangeAt Go.RowKit Go.Cf
set_option maxRecDepth 10000
theorem ce_str : Tryd.prog.cellsOf 9 = 1 := by kernel_rfl
theorem ce_ints : Tryd.prog.cellsOf 30 = 1 := by kernel_rfl
theorem by_int : Tryd.prog.bytesOf 3 = 8 := by kernel_rfl
theorem by_rule : Tryd.prog.bytesOf 32 = 40 := by kernel_rfl
theorem el_rule {H : Type} {enc : TypeId × Value → H} {w : World} : ∀ (n : Nat) (cs : List Value) (x : DataW H × List MemPlace), DataW.trod enc Tryd.prog w 0 (fun _ => true) true n 32 cs = some x →
    (x.1.weights Tryd.prog 32).all (· ≤ reachBytes) = true → ∃ a : RuleC, cs = ruleCells a ∧ RuleR w 0 a := by
  intro n cs x h hw
  obtain ⟨m, hlen, hf⟩ := rd_struct Tryd.underlying32 h hw
  have hl : cs.length = 2 := hlen.trans (by kernel_rfl)
  match cs, hl with
  | [c0, c1], _ =>
    obtain ⟨y0, f0, w0⟩ := hf 0 _ rfl
    obtain ⟨y1, f1, w1⟩ := hf 1 _ rfl
    simp [ce_str, ce_ints] at f0 f1
    obtain ⟨a0, e0, _⟩ := el_str Tryd.underlying9 m _ _ f0 w0
    obtain ⟨A1, c1', l1, e1, r1, s1, m1, n1, t1, _⟩ := rd_cells Tryd.underlying30 (by kernel_rfl) (el_int Tryd.underlying3) f1 w1
    simp at e0 e1
    subst e0 e1
    rw [by_int] at t1
    exact ⟨⟨⟨a0, l1⟩, A1, c1'⟩, rfl, ⟨r1, ⟨s1, m1, n1, Nat.le_trans (Nat.mul_le_mul_right _ s1) t1⟩⟩⟩
end Go.Proofs.YtijpaljdclhehaaDoor
namespace Go.Proofs.YtijpaljdclhehaaDoor
open Go.ChangeShapes Go.WideShapes Go.ChangeAt Go.RowKit Go.Cf
set_option maxRecDepth 100000 in
theorem ownersRequiredIsMinimal_lifted (os : Os) (started : os.Started) (H : Type) (enc : TypeId × Value → H) (F : Stop.Interp) :
    ReturnsInHanded {} Tryd.checked os 9 .any ((OpenSpec.ofChange Rows.ownersRequiredIsMinimalSpec).preRow enc Tryd.prog Tryd.f9 Rows.ownersRequiredIsMinimalRow.domain false Rows.ownersRequiredIsMinimalRow.laid) (((OpenSpec.ofChange Rows.ownersRequiredIsMinimalSpec).at F).post enc Tryd.prog Tryd.f9 false true false false) := by
  refine law_lift_row (C := Tryd.checked) (s := OpenSpec.ofChange Rows.ownersRequiredIsMinimalSpec) (tb := 4) (by kernel_rfl) started (by kernel_rfl) Tryd.func9
    (witness_row_at (enc := enc) (C := Tryd.checked) false ({ (World.holding Tryd.prog os ⟨#[], #[], []⟩) with heap := ((World.holding Tryd.prog os ⟨#[], #[], []⟩).heap.modify 1 fun | .cells _ t fz => .cells (Go.Pinned.utf8FirstZ.map fun n : Nat => Value.int .u8 (n : Int)).toArray t fz | o => o).modify 2 fun | .cells _ t fz => .cells (([128, 191, 160, 191, 128, 159, 144, 191, 128, 143, 0, 0, 0, 0, 0, 0, 0, 0, 0, 0, 0, 0, 0, 0, 0, 0, 0, 0, 0, 0, 0, 0] : List Nat).map fun n : Nat => Value.int .u8 (n : Int)).toArray t fz | o => o } : World) #[.slice none 0 0, .slice none 0 0] rfl (by kernel_rfl) (by kernel_rfl) (by kernel_rfl)
      (OpenSpec.preRow_of_cond 8 (show DataW.whole enc Tryd.prog _ Tryd.f9.params.toList _ false _ 8 = some ([.nil, .nil], [], []) by kernel_rfl) (by kernel_rfl) (fun k hk => by cases hk) (by kernel_rfl) (laidMet_of_run' 8 (by kernel_rfl) (by kernel_rfl))))
    (by kernel_rfl) (by kernel_rfl) (by kernel_rfl) Tryd.underlying4 rfl rfl rfl ?_ ?_
  · intro ds hds
    rw [show Tryd.f9.params.size = 2 from by rw [Tryd.params9]; rfl] at hds
    match ds, hds with
    | [d0, d1], _ => exact ⟨rfl, rfl, rfl⟩
  · intro W base args ds p hval hA hw hk hL
    rw [show Tryd.f9.params.toList = [29, 37] from by rw [Tryd.params9]] at hA hw
    rw [Tryd.params9] at hval
    obtain ⟨v0, vs0, d0, ds0, p0, q0, hargs, rfl, rfl, h0, r0⟩ := trodAll_cons hA
    obtain ⟨v1, vs1, d1, ds1, p1, q1, rfl, rfl, rfl, h1, r1⟩ := trodAll_cons r0
    obtain ⟨rfl, rfl, rfl⟩ := trodAll_nil r1
    obtain rfl : args = #[v0, v1] := by cases args; simp_all
    obtain ⟨w0, hw⟩ := weights_each hw
    obtain ⟨w1, hw⟩ := weights_each hw
    obtain ⟨A0, c0, l0, rfl, hv0, hlc0, hcm0, hA0, hcb0, hQ0⟩ := rd_slice Tryd.underlying29 (by kernel_rfl) el_rule (hval 0 29 v0 rfl rfl) h0 w0
    have hR0 : RulesR W 0 A0 c0 l0 := ⟨hv0, hQ0, ⟨hlc0, hcm0, hA0, Nat.le_trans (Nat.mul_le_mul_right _ hlc0) (by rw [by_rule] at hcb0; exact hcb0)⟩⟩
    obtain ⟨A1, c1, l1, rfl, hv1, hlc1, hcm1, hA1, hcb1, hQ1⟩ := rd_slice Tryd.underlying37 (by kernel_rfl) (el_str Tryd.underlying9) (hval 1 37 v1 rfl rfl) h1 w1
    exact law25_any W A0 c0 l0 hR0 A1 c1 l1 hv1 hlc1 hcm1
theorem ownersRequiredIsMinimal_said : Rows.OwnersRequiredIsMinimalSaid :=
  OpenClaim.holds_of_cond 9 Tryd.f9 rfl rfl rfl rfl rfl rfl rfl ⟨rfl, rfl, rfl, rfl, rfl⟩ rfl rfl rfl rfl rfl (by kernel_rfl) Tryd.func9 (by kernel_rfl)
    (of_decide_eq_true (by kernel_rfl)) (by unfold Func.isWrapper; first | (rw [if_pos (by decide +kernel)]; kernel_rfl) | (rw [if_neg (by decide +kernel)]; exact ⟨rfl, rfl⟩))
    (fun os started H enc _ F => by rw [OpenClaim.pre_eq_preRow]; exact ownersRequiredIsMinimal_lifted os started H enc F)
theorem ownersRequiredIsMinimal_plain (f : FuncId) (fn : Func) (hf : Tryd.pinned.checked.prog.funcNamed "changeforge/changeforgelaw7.OwnersRequiredIsMinimal" = some f) (hfn : Tryd.pinned.checked.prog.funcs[f]? = some fn) :
    false = Tryd.pinned.checked.prog.looks [] ∧ ∀ (j : Nat) t, fn.params[j]? = some t → Tryd.pinned.checked.prog.wantsStandIn t = false := by
  obtain rfl : f = 9 := Option.some.inj ((show Tryd.prog.funcNamed "changeforge/changeforgelaw7.OwnersRequiredIsMinimal" = some 9 by kernel_rfl).symm.trans hf) |>.symm
  obtain rfl : fn = Tryd.f9 := (Option.some.inj (Tryd.func9.symm.trans hfn)).symm
  refine ⟨by kernel_rfl, fun j t ht => ?_⟩
  rw [Tryd.params9] at ht
  have hm : t ∈ [29, 37] := by simpa using Array.mem_of_getElem? ht
  have hall : ([29, 37].all fun u => !Tryd.prog.wantsStandIn u) = true := by kernel_rfl
  exact (show Tryd.prog.wantsStandIn t = false by simpa using List.all_eq_true.1 hall t hm)
theorem ownersRequiredIsMinimal_holds : Rows.OwnersRequiredIsMinimalCardSaid :=
  Claim7.holds_tied_plain_at .later [] _ _ _ _ ownersRequiredIsMinimal_said (fun _ h => by cases h) (by kernel_rfl) (fun _ h => by cases h) ownersRequiredIsMinimal_row_tie rfl ⟨rfl, rfl⟩ (by kernel_rfl) rfl ownersRequiredIsMinimal_plain (by kernel_rfl)
end Go.Proofs.YtijpaljdclhehaaDoor
