/-
  OwnersFormatRoundTrip: for all rules the law returns true (the tied card).
-/
import Derived.Test.YtijpaljdclhehaaDoorP23c
import Derived.Deep.DeepHandedRow
import Derived.Lib.LaidTab
import Derived.Test.YtijpaljdclhehaaDoorCards
import Derived.Test.YtijpaljdclhehaaDoorProg
import Derived.Test.YtijpaljdclhehaaDoorTie
namespace Go.Proofs.YtijpaljdclhehaaDoor
open Go.RowKit Go.Cf
set_option maxRecDepth 10000
theorem el32 : Elem Tryd.prog 32 2 40 := elem_of (z := .agg #[.string .empty, .slice none 0 0]) (by kernel_rfl) rfl (by decide)
set_option maxHeartbeats 2000000 in
theorem parseFile_any (w : World) (A : Option Addr) (c : Nat) (text : List ByteArray) (ht : Rdl w 0 1 strCells A text) (hm : text.length ≤ maxLen) :
    Calls Tryd.prog 22 #[.slice A text.length c] w fun e w' => ∃ v T' rs' fr, e = .returned (.tuple #[v, fv (fileF text)]) ∧ T' = [rowl ruleCells w.heap.size 32 2 (v) (rs'), fr] ∧ rls rs' = fileV text ∧ (∀ w1, fr.ok w1 → ∀ a ∈ rs', RuleR w1 w.heap.size a) ∧ Mem w T' w' := by
  refine gcalls Tryd.func22 rfl Tryd.ntmps22 (Nat.le_of_ble_eq_true rfl) ?_
  refine gfrom [(0, .slice _ _ _)] ⟨rfl, trivial⟩ fun σ => ?_
  refine gseq fun N1 hN1 => ?_
  refine greg ?_
  refine gop (y_assign (v := .slice _ _ _) rfl) rfl rfl rfl ?_
  refine gop_alloc (cs := #[.int .i64 0, .int .i64 0]) Tryd.zeroValue23 rfl rfl (fun b3 hb3 => ?_)
  refine gops_nil ?_
  refine hN1 _ _ ?_
  refine gT [box b3 _] rfl ?_
  refine gfrom [(0, .slice _ _ _), (3, .pointer _)] ⟨rfl, rfl, trivial⟩ fun σ => ?_
  refine gseq fun N2 hN2 => ?_
  refine gseq fun N3 hN3 => ?_
  refine greg ?_
  refine gop (y_move (v := .slice _ _ _) rfl) rfl rfl rfl ?_
  refine gop_pure (e_call (vs := [.slice _ _ _]) Tryd.func29 rfl (by kernel_rfl) rfl) (fun w hM => linesValidate_any w A c text (ht.base hM) hm) rfl rfl rfl ?_
  refine gop_alloc (cs := #[.int .i64 0, .int .i64 0]) Tryd.zeroValue23 rfl rfl (fun b4 hb4 => ?_)
  refine gop_store 1 (v := .agg #[_, _]) (cs' := #[_, _]) rfl rfl Tryd.sizeOf23 rfl rfl rfl rfl (Nat.le_of_ble_eq_true rfl) rfl rfl ?_
  refine gops_nil ?_
  refine hN3 _ _ ?_
  refine gT [box b3 _, box b4 _] rfl ?_
  refine gfrom [(0, .slice _ _ _), (3, .pointer _), (4, .pointer _)] ⟨rfl, rfl, rfl, trivial⟩ fun σ => ?_
  refine gseq fun N4 hN4 => ?_
  refine greg ?_
  refine gop (y_loads (cs := [_, _]) Tryd.isAgg23 Tryd.sizeOf23 rfl rfl (cells_box 1 rfl)) rfl rfl rfl ?_
  refine gop (y_build (vs := []) (cells := #[.int .i64 0, .int .i64 0]) rfl bd23_) rfl rfl rfl ?_
  refine gop (y_bin (vx := .agg #[_, _]) (vy := .agg #[_, _]) rfl rfl (fun w => eg23 _ _ _ _ _ w) (fun w => ne23 _ _ _ _ w)) rfl rfl rfl ?_
  refine gops_nil ?_
  refine hN4 _ _ ?_
  refine gfrom [(0, .slice _ _ _), (3, .pointer _), (4, .pointer _), (14, .bool _)] ⟨rfl, rfl, rfl, rfl, trivial⟩ fun σ => ?_
  refine gcond (b := _) rfl (fun hc14 => ?_) (fun hc14 => ?_)
  · 
    replace hc14 := fault_ne.1 hc14
    have hFF : fileF text = linesF text := by rw [fileF, if_pos hc14]
    refine gseq fun N5 hN5 => ?_
    refine greg_e1 [] [(0, room b3 23 2)] (by kernel_rfl) ?_
    refine ge_take 0 (TK := [room b3 23 2, box b4 _]) rfl (by kernel_rfl) (by kernel_rfl) (by kernel_rfl) #[false, true, false] (by kernel_rfl) rfl (y_loads (cs := [_, _]) Tryd.isAgg23 Tryd.sizeOf23 rfl rfl (cells_box 1 rfl)) rfl rfl rfl (weak_room 0 rfl rfl) (listed' := #[true, false, false]) rfl ?_
    refine ge_take 1 (TK := [room b3 23 2, box b4 _]) rfl (by kernel_rfl) (by kernel_rfl) (by kernel_rfl) #[true, false, false] (by kernel_rfl) rfl (y_assign (v := .slice _ _ _) rfl) rfl rfl rfl (weak_room 0 rfl rfl) (listed' := #[true, true, false]) rfl ?_
    refine ge_one 2 (k' := 0) (listed' := #[true, true, true]) (by kernel_rfl) rfl rfl rfl ?_
    refine gop_store 0 (v := .agg #[_, _]) (cs' := #[_, _]) rfl rfl Tryd.sizeOf23 rfl rfl rfl rfl (Nat.le_of_ble_eq_true rfl) rfl rfl ?_
    refine gops_nil ?_
    refine ge_fin (TK := [room b3 23 2, box b4 _]) rfl (weak_room 0 rfl rfl) ?_
    refine ge_done (by kernel_rfl) ?_
    refine hN5 _ _ ?_
    refine gT [box b3 _, box b4 _] rfl ?_
    refine gfrom [(2, .slice _ _ _), (3, .pointer _)] ⟨rfl, rfl, trivial⟩ fun σ => ?_
    refine gret fun w1 hM => ?_
    refine ⟨_, res2 rfl (rt (v := .slice _ _ _) rfl) (rc 0 (cs := [_, _]) hM rfl rfl Tryd.isAgg23 Tryd.sizeOf23 rfl), ?_⟩
    exact ⟨_, _, [], emp, by rw [hFF], rfl, by rw [fileV, if_neg (by rw [hFF]; exact hc14)]; rfl, fun _ _ _ h => (by cases h), (mem_nilrow ruleCells 32 2 hM).emp.dropTo 2 rfl⟩
  · 
    replace hc14 := fault_eq.1 hc14
    have hls := line_size hc14
    refine gskip ?_
    refine hN2 _ _ ?_
    refine gfrom [(0, .slice _ _ _), (3, .pointer _)] ⟨rfl, rfl, trivial⟩ fun σ => ?_
    refine gseq fun N6 hN6 => ?_
    refine greg ?_
    refine gop (y_assign (v := .slice _ _ _) rfl) rfl rfl rfl ?_
    refine gops_nil ?_
    refine hN6 _ _ ?_
    refine gfrom [(0, .slice _ _ _), (3, .pointer _), (5, .slice _ _ _)] ⟨rfl, rfl, rfl, trivial⟩ fun σ => ?_
    refine gseq fun N7 hN7 => ?_
    refine gseq fun N8 hN8 => ?_
    refine greg ?_
    refine gop (y_move (v := .slice _ _ _) rfl) rfl rfl rfl ?_
    refine gop (y_len Tryd.underlying37 rfl) rfl rfl rfl ?_
    refine gop (y_move (v := .int _ _) rfl) rfl rfl rfl ?_
    refine gops_nil ?_
    refine hN8 _ _ ?_
    refine gfrom [(3, .pointer _), (5, .slice _ _ _), (16, .slice _ _ _), (17, .int _ _), (18, .int _ _)] ⟨rfl, rfl, rfl, rfl, rfl, trivial⟩ fun σ => ?_
    refine gblock ?_
    refine gnilrow ruleCells 32 2 ?_
    refine g_emp ?_
    refine gfrom2 [(5, .slice _ _ _), (18, .int _ _)] [(3, .pointer _), (16, .slice _ _ _), (17, .int _ _)] ⟨rfl, rfl, trivial⟩ ⟨rfl, rfl, rfl, trivial⟩ fun σ => ?_
    refine gloop2 (G := Nat × Option Addr × Nat × List RuleC × Reg) (fun (k, Av, cv, rn, fr) => k ≤ text.length ∧ rls rn = readL (text.take k) ∧ (∀ j (h : j < text.length), j < k → badL text[j] = 0) ∧ ∀ w1, fr.ok w1 → ∀ a ∈ rn, RuleR w1 w.heap.size a) (fun (k, Av, cv, rn, fr) => text.length - k) (fun (k, Av, cv, rn, fr) => [(5, .slice Av rn.length cv), (18, .int .i64 (k : Int))]) (fun (k, Av, cv, rn, fr) => [(2, rowl ruleCells w.heap.size 32 2 (.slice Av rn.length cv) (rn)), (3, fr)]) ((0, none, 0, [], emp)) ?h0 ⟨rfl, rfl, trivial⟩ ⟨rfl, rfl, rfl, trivial⟩ rfl ?round
    case h0 => exact ⟨Nat.zero_le _, rfl, fun _ _ h => absurd h (by omega), fun _ _ _ h => (by cases h)⟩
    case round =>
      rintro ⟨k, Av, cv, rn, fr⟩ hφ σ
      obtain ⟨hk, hrl, hz, hfr⟩ := hφ
      have hrnl : rn.length ≤ k := by have h8 := congrArg List.length hrl; have h9 := readL_len (text.take k); simp at h8 h9; omega
      refine gT [box b3 _, box b4 _, rowl _ _ _ _ _ _, fr] rfl ?_
      refine gseq fun N9 hN9 => ?_
      refine greg ?_
      refine gop (y_lss rfl rfl) rfl rfl rfl ?_
      refine gops_nil ?_
      refine hN9 _ _ ?_
      refine gfrom [(3, .pointer _), (5, .slice Av _ cv), (16, .slice _ _ _), (17, .int _ _), (18, .int _ _), (19, .bool _)] ⟨rfl, rfl, rfl, rfl, rfl, rfl, trivial⟩ fun σ => ?_
      refine gseq fun N10 hN10 => ?_
      refine gcond (b := _) rfl (fun hc19 => ?_) (fun hc19 => ?_)
      · 
        replace hc19 := of_decide_eq_true hc19
        have hk1 : k < text.length := by omega
        obtain ⟨ad, rfl, -, hca⟩ := ht.at_ hk1
        refine gskip ?_
        refine hN10 _ _ ?_
        refine gfrom [(3, .pointer _), (5, .slice Av _ cv), (16, .slice _ _ _), (17, .int _ _), (18, .int _ _)] ⟨rfl, rfl, rfl, rfl, rfl, trivial⟩ fun σ => ?_
        refine gseq fun N11 hN11 => ?_
        refine gblock ?_
        refine gseq fun N12 hN12 => ?_
        refine greg ?_
        refine gop (y_move (v := .int _ _) rfl) rfl rfl rfl ?_
        refine gop (y_indexAddr (m := k) Tryd.underlying37 Tryd.sizeOf9 rfl rfl (by omega) (by omega) (by omega)) rfl rfl rfl ?_
        refine gop (y_load Tryd.isAgg9 rfl (cell_base (hca 0 _ rfl))) rfl rfl rfl ?_
        refine gop (y_assign (v := .int _ _) rfl) rfl rfl rfl ?_
        refine gop (y_assign (v := .string _) rfl) rfl rfl rfl ?_
        refine gops_nil ?_
        refine hN12 _ _ ?_
        refine gfrom [(3, .pointer _), (5, .slice Av _ cv), (6, .int _ _), (7, .string _), (16, .slice _ _ _), (17, .int _ _), (18, .int _ _)] ⟨rfl, rfl, rfl, rfl, rfl, rfl, rfl, trivial⟩ fun σ => ?_
        refine gseq fun N13 hN13 => ?_
        refine gseq fun N14 hN14 => ?_
        refine greg ?_
        refine gop (y_move (v := .string _) rfl) rfl rfl rfl ?_
        refine gop (y_eqls rfl rfl) rfl rfl rfl ?_
        refine gop (y_move (v := .bool _) rfl) rfl rfl rfl ?_
        refine gop_if (want := false) rfl rfl rfl rfl rfl rfl (fun hg25 => ?_) (fun hg25 => ?_)
        · 
          have hg25d := hg25
          have hsz : 0 < text[k].size := str_pos hg25d
          refine gop (y_bare (y_move (v := .string _) rfl)) rfl rfl rfl ?_
          refine gop_on rfl rfl rfl rfl hg25 ?_
          refine gop (y_bare (y_stridx (m := 0) Tryd.underlying9 rfl rfl (by omega) (by omega) (by omega))) rfl rfl rfl ?_
          refine gop_on rfl rfl rfl rfl hg25 ?_
          refine gop (y_bare (y_eql rfl rfl)) rfl rfl rfl ?_
          refine gop (y_pick_f (v := .bool _) rfl hg25 rfl) rfl rfl rfl ?_
          refine gops_nil ?_
          refine hN14 _ _ ?_
          refine gfrom [(3, .pointer _), (5, .slice Av _ cv), (6, .int _ _), (7, .string _), (16, .slice _ _ _), (17, .int _ _), (18, .int _ _), (29, .bool _)] ⟨rfl, rfl, rfl, rfl, rfl, rfl, rfl, rfl, trivial⟩ fun σ => ?_
          refine gcond (b := _) rfl (fun hc29 => ?_) (fun hc29 => ?_)
          · 
            replace hc29 := of_decide_eq_true hc29
            have hsk : skipL text[k] = true := by first | (unfold skipL; rw [show strEq text[k] ⟨#[]⟩ = true from hg25d]; rfl) | (unfold skipL; rw [decide_eq_true (show byteAt text[k] 0 = 35 by omega)]; simp)
            refine gexit ?_
            refine hN11 _ _ ?_
            refine gfrom [(3, .pointer _), (5, .slice Av _ cv), (16, .slice _ _ _), (17, .int _ _), (18, .int _ _)] ⟨rfl, rfl, rfl, rfl, rfl, trivial⟩ fun σ => ?_
            refine greg ?_
            refine gop (y_add rfl rfl ⟨by omega, by omega⟩) rfl rfl rfl ?_
            refine gop (y_move (v := .int _ _) rfl) rfl rfl rfl ?_
            refine gops_nil ?_
            refine gnext2 ((k + 1, Av, cv, rn, fr)) (by show text.length - (k + 1) < text.length - k; omega) (⟨by show k + 1 ≤ _; omega, by rw [readL_take hk1, hsk]; simpa using hrl, fun j h hj => by rcases Nat.lt_succ_iff_lt_or_eq.1 hj with h1 | rfl; exact hz j h h1; rw [badL, if_pos hsk], hfr⟩) ⟨rfl, rfl, trivial⟩ ⟨rfl, rfl, rfl, trivial⟩ ⟨_, rfl⟩
            skip
          · 
            replace hc29 := of_decide_eq_false hc29
            have hsk : skipL text[k] = false := by unfold skipL; rw [show strEq text[k] ⟨#[]⟩ = false from hg25d, decide_eq_false (show ¬ byteAt text[k] 0 = 35 by omega)]; rfl
            have hbd : badL text[k] = lineC text[k] := by rw [badL, hsk]; rfl
            refine gskip ?_
            refine hN13 _ _ ?_
            refine gfrom [(3, .pointer _), (5, .slice Av _ cv), (6, .int _ _), (7, .string _), (16, .slice _ _ _), (17, .int _ _), (18, .int _ _)] ⟨rfl, rfl, rfl, rfl, rfl, rfl, rfl, trivial⟩ fun σ => ?_
            refine gseq fun N15 hN15 => ?_
            refine greg ?_
            refine gop (y_move (v := .string _) rfl) rfl rfl rfl ?_
            refine gop_got (fun v T' => ∃ A1 c1 lo, w.heap.size ≤ lo ∧ v = .tuple #[.agg #[.string (lineR text[k]).pat, .slice A1 (lineR text[k]).users.length c1], .int .i64 (lineC text[k])] ∧ T' = [rowl intCells lo 3 1 (.slice A1 (lineR text[k]).users.length c1) ((lineR text[k]).users)]) (e_call (vs := [.string _]) Tryd.func50 rfl (by kernel_rfl) rfl) (fun w hM => (parse_any w text[k] (by have h9 := (hls.2 k hk1).2; omega)).mono fun _ _ ⟨A1, c1, T1, h1, h2, h3⟩ => ⟨_, T1, h1, ⟨A1, c1, _, hM.low.size, rfl, h2⟩, h3⟩) rfl rfl rfl ?_
            rintro _ _ ⟨A32, c32, lo32, hlo32, rfl, rfl⟩
            refine gops_mem _ (weak_lower 4 rfl hlo32) ?_
            refine gop (y_move (v := .tuple #[.agg #[_, _], .int _ _]) rfl) rfl rfl rfl ?_
            refine gop (y_extract (v := .agg #[_, _]) rfl rfl) rfl rfl rfl ?_
            refine gop (y_extract (v := .int _ _) rfl rfl) rfl rfl rfl ?_
            refine gop_alloc (cs := #[.string .empty, .slice none 0 0]) Tryd.zeroValue32 rfl rfl (fun b8 hb8 => ?_)
            refine gop_store 5 (v := .agg #[_, _]) (cs' := #[_, _]) rfl rfl Tryd.sizeOf32 rfl rfl rfl rfl (Nat.le_of_ble_eq_true rfl) rfl rfl ?_
            refine gop (y_assign (v := .int _ _) rfl) rfl rfl rfl ?_
            refine gops_nil ?_
            refine hN15 _ _ ?_
            refine gT [box b3 _, box b4 _, rowl _ _ _ _ _ _, fr, rowl _ _ _ _ _ _, box b8 _] rfl ?_
            refine gfrom [(3, .pointer _), (5, .slice Av _ cv), (6, .int _ _), (8, .pointer _), (9, .int _ _), (16, .slice _ _ _), (17, .int _ _), (18, .int _ _)] ⟨rfl, rfl, rfl, rfl, rfl, rfl, rfl, rfl, trivial⟩ fun σ => ?_
            refine gseq fun N16 hN16 => ?_
            refine gseq fun N17 hN17 => ?_
            refine greg ?_
            refine gop (y_move (v := .int _ _) rfl) rfl rfl rfl ?_
            refine gop (y_neq rfl rfl) rfl rfl rfl ?_
            refine gops_nil ?_
            refine hN17 _ _ ?_
            refine gfrom [(3, .pointer _), (5, .slice Av _ cv), (6, .int _ _), (8, .pointer _), (9, .int _ _), (16, .slice _ _ _), (17, .int _ _), (18, .int _ _), (36, .bool _)] ⟨rfl, rfl, rfl, rfl, rfl, rfl, rfl, rfl, rfl, trivial⟩ fun σ => ?_
            refine gcond (b := _) rfl (fun hc36 => ?_) (fun hc36 => ?_)
            · 
              replace hc36 := of_decide_eq_true hc36
              have hsc := scan_at (f := fun _ s => badL s) hk1 hz (by rw [hbd]; exact hc36)
              have hFF : fileF text = ⟨lineC text[k], k⟩ := by rw [fileF, if_neg (fun h => h hc14), hsc, hbd, if_pos (fun h => hc36 (congrArg Fault.code h))]
              refine gseq fun N18 hN18 => ?_
              refine greg ?_
              refine gop (y_move (v := .int _ _) rfl) rfl rfl rfl ?_
              refine gop (y_move (v := .int _ _) rfl) rfl rfl rfl ?_
              refine gop (y_build (vs := [(0, .int _ _), (1, .int _ _)]) (cells := #[_, _]) rfl (bd23_0_1 _ _)) rfl rfl rfl ?_
              refine gop (y_assign (v := .slice _ _ _) rfl) rfl rfl rfl ?_
              refine gop_store 0 (v := .agg #[_, _]) (cs' := #[_, _]) rfl rfl Tryd.sizeOf23 rfl rfl rfl rfl (Nat.le_of_ble_eq_true rfl) rfl rfl ?_
              refine gops_nil ?_
              refine hN18 _ _ ?_
              refine gT [box b3 _, box b4 _, rowl _ _ _ _ _ _, fr, rowl _ _ _ _ _ _, box b8 _] rfl ?_
              refine gfrom [(2, .slice _ _ _), (3, .pointer _)] ⟨rfl, rfl, trivial⟩ fun σ => ?_
              refine gret fun w1 hM => ?_
              refine ⟨_, res2 rfl (rt (v := .slice _ _ _) rfl) (rc 0 (cs := [_, _]) hM rfl rfl Tryd.isAgg23 Tryd.sizeOf23 rfl), ?_⟩
              exact ⟨_, _, [], emp, by rw [hFF], rfl, by rw [fileV, if_neg (by rw [hFF]; exact fun h => hc36 (congrArg Fault.code h))]; rfl, fun _ _ _ h => (by cases h), (mem_nilrow ruleCells 32 2 hM).emp.dropTo 6 rfl⟩
            · 
              replace hc36 := Decidable.not_not.1 (of_decide_eq_false hc36)
              refine gskip ?_
              refine hN16 _ _ ?_
              refine gfrom [(3, .pointer _), (5, .slice Av _ cv), (8, .pointer _), (16, .slice _ _ _), (17, .int _ _), (18, .int _ _)] ⟨rfl, rfl, rfl, rfl, rfl, rfl, trivial⟩ fun σ => ?_
              refine greg ?_
              refine gop (y_move (v := .slice Av _ cv) rfl) rfl rfl rfl ?_
              refine gop (y_loads (cs := [_, _]) Tryd.isAgg32 Tryd.sizeOf32 rfl rfl (cells_box 5 rfl)) rfl rfl rfl ?_
              refine gop_lit (vs := [.agg #[_, _]]) (cells := #[_, _]) Tryd.underlying29 Tryd.sizeOf32 Tryd.zeroValue32 rfl (by decide) (by decide) rfl rfl rfl rfl (fun b42 hb42 => ?_)
              refine gop_append 2 (f := ruleCells) (l2 := [⟨lineR text[k], A32, c32⟩]) Tryd.underlying29 el32 wide_rule (v := .slice Av _ cv) rfl rfl rfl rfl (fun h => by cases h) (by simp [maxLen]; omega) (by simp; omega) (src_box 6 rfl rfl) rfl (fun v43 => ?_)
              refine gops_fact (fun w hM => own_form (hM.own 2 rfl)) ?_
              rintro ⟨A43, c43, rfl, hc43, hm43⟩
              refine gop (y_assign (v := .slice A43 _ c43) rfl) rfl rfl rfl ?_
              refine gops_nil ?_
              refine hN11 _ _ ?_
              refine gT [box b3 _, box b4 _, rowl _ _ _ _ _ _, fr, rowl _ _ _ _ _ _, box b8 _, box b42 _] rfl ?_
              refine gfrom [(3, .pointer _), (5, .slice A43 _ c43), (16, .slice _ _ _), (17, .int _ _), (18, .int _ _)] ⟨rfl, rfl, rfl, rfl, rfl, trivial⟩ fun σ => ?_
              refine greg ?_
              refine gop (y_add rfl rfl ⟨by omega, by omega⟩) rfl rfl rfl ?_
              refine gop (y_move (v := .int _ _) rfl) rfl rfl rfl ?_
              refine gops_nil ?_
              refine fin_mem _ (weak_all 4 3 rfl) ?_
              refine gnext2 ((k + 1, A43, c43, rn ++ [⟨lineR text[k], A32, c32⟩], both fr (all_ [_, _, _]))) (by show text.length - (k + 1) < text.length - k; omega) (⟨by show k + 1 ≤ _; omega, by rw [readL_take hk1, hsk]; show List.map _ _ = _; rw [List.map_append]; show rls rn ++ _ = _; rw [hrl]; rfl, fun j h hj => by rcases Nat.lt_succ_iff_lt_or_eq.1 hj with h1 | rfl; exact hz j h h1; rw [hbd]; exact hc36, fun w1 ho a ha => ?hr⟩) ⟨rfl, rfl, trivial⟩ ⟨rfl, rfl, rfl, trivial⟩ ⟨_, rfl⟩
              case hr =>
                rcases List.mem_append.1 ha with ha | ha
                · exact hfr w1 ho.1 a ha
                · obtain rfl := List.mem_singleton.1 ha
                  exact ruleR_row (ho.2.1) (Nat.le_trans (show (lineR text[k]).users.length * 8 ≤ 40000000 by have h9 := lineR_len text[k]; have h8 := (hls.2 k hk1).2; omega) (by decide))
        · 
          have hg25d := hg25
          refine gop_off rfl rfl rfl rfl hg25 rfl rfl ?_
          refine gop_off rfl rfl rfl rfl hg25 rfl rfl ?_
          refine gop (y_pick_t (v := .bool _) rfl hg25 rfl) rfl rfl rfl ?_
          refine gops_nil ?_
          refine hN14 _ _ ?_
          refine gfrom [(3, .pointer _), (5, .slice Av _ cv), (6, .int _ _), (7, .string _), (16, .slice _ _ _), (17, .int _ _), (18, .int _ _), (29, .bool _)] ⟨rfl, rfl, rfl, rfl, rfl, rfl, rfl, rfl, trivial⟩ fun σ => ?_
          refine gcond (b := _) rfl (fun hc29 => ?_) (fun hc29 => ?_)
          · 
            have hsk : skipL text[k] = true := by first | (unfold skipL; rw [show strEq text[k] ⟨#[]⟩ = true from hg25d]; rfl) | (unfold skipL; rw [decide_eq_true (show byteAt text[k] 0 = 35 by omega)]; simp)
            refine gexit ?_
            refine hN11 _ _ ?_
            refine gfrom [(3, .pointer _), (5, .slice Av _ cv), (16, .slice _ _ _), (17, .int _ _), (18, .int _ _)] ⟨rfl, rfl, rfl, rfl, rfl, trivial⟩ fun σ => ?_
            refine greg ?_
            refine gop (y_add rfl rfl ⟨by omega, by omega⟩) rfl rfl rfl ?_
            refine gop (y_move (v := .int _ _) rfl) rfl rfl rfl ?_
            refine gops_nil ?_
            refine gnext2 ((k + 1, Av, cv, rn, fr)) (by show text.length - (k + 1) < text.length - k; omega) (⟨by show k + 1 ≤ _; omega, by rw [readL_take hk1, hsk]; simpa using hrl, fun j h hj => by rcases Nat.lt_succ_iff_lt_or_eq.1 hj with h1 | rfl; exact hz j h h1; rw [badL, if_pos hsk], hfr⟩) ⟨rfl, rfl, trivial⟩ ⟨rfl, rfl, rfl, trivial⟩ ⟨_, rfl⟩
            skip
          · 
            cases hc29
      · 
        replace hc19 := of_decide_eq_false hc19
        have hsc : scan (fun _ s => badL s) text = ⟨0, 0⟩ := scan_ok fun j hj => hz j hj (by omega)
        have hrn : rls rn = readL text := by rw [hrl, List.take_of_length_le (by omega)]
        refine gexit ?_
        refine hN7 _ _ ?_
        refine gfrom [(3, .pointer _), (5, .slice Av _ cv)] ⟨rfl, rfl, trivial⟩ fun σ => ?_
        refine gseq fun N19 hN19 => ?_
        refine gseq fun N20 hN20 => ?_
        refine greg ?_
        refine gop (y_move (v := .slice Av _ cv) rfl) rfl rfl rfl ?_
        refine gop (y_len Tryd.underlying29 rfl) rfl rfl rfl ?_
        refine gop (y_gtr rfl rfl) rfl rfl rfl ?_
        refine gops_nil ?_
        refine hN20 _ _ ?_
        refine gfrom [(3, .pointer _), (5, .slice Av _ cv), (47, .bool _)] ⟨rfl, rfl, rfl, trivial⟩ fun σ => ?_
        refine gcond (b := _) rfl (fun hc47 => ?_) (fun hc47 => ?_)
        · 
          replace hc47 := of_decide_eq_true hc47
          refine gseq fun N21 hN21 => ?_
          refine greg ?_
          refine gop (y_build (vs := [(0, _), (1, _)]) (cells := #[_, _]) rfl (bd23_0_1 _ _)) rfl rfl rfl ?_
          refine gop (y_assign (v := .slice _ _ _) rfl) rfl rfl rfl ?_
          refine gop_store 0 (v := .agg #[_, _]) (cs' := #[_, _]) rfl rfl Tryd.sizeOf23 rfl rfl rfl rfl (Nat.le_of_ble_eq_true rfl) rfl rfl ?_
          refine gops_nil ?_
          refine hN21 _ _ ?_
          refine gT [box b3 _, box b4 _, rowl _ _ _ _ _ _, fr] rfl ?_
          refine gfrom [(2, .slice _ _ _), (3, .pointer _)] ⟨rfl, rfl, trivial⟩ fun σ => ?_
          refine gret fun w1 hM => ?_
          refine ⟨_, res2 rfl (rt (v := .slice _ _ _) rfl) (rc 0 (cs := [_, _]) hM rfl rfl Tryd.isAgg23 Tryd.sizeOf23 rfl), ?_⟩
          have hFF : fileF text = ⟨2, -1⟩ := by rw [fileF, if_neg (fun h => h hc14), hsc, if_neg (fun h => h rfl), ← hrn, if_pos (by simp; omega)]
          exact ⟨_, _, [], emp, by rw [hFF], rfl, by rw [fileV, if_neg (by rw [hFF]; decide)]; rfl, fun _ _ _ h => (by cases h), (mem_nilrow ruleCells 32 2 hM).emp.dropTo 4 rfl⟩
        · 
          replace hc47 := of_decide_eq_false hc47
          refine gskip ?_
          refine hN19 _ _ ?_
          refine gfrom [(3, .pointer _), (5, .slice Av _ cv)] ⟨rfl, rfl, trivial⟩ fun σ => ?_
          refine gseq fun N22 hN22 => ?_
          refine greg ?_
          refine gop (y_move (v := .slice Av _ cv) rfl) rfl rfl rfl ?_
          refine gop (y_build (vs := []) (cells := #[.int .i64 0, .int .i64 0]) rfl bd23_) rfl rfl rfl ?_
          refine gop (y_assign (v := .slice Av _ cv) rfl) rfl rfl rfl ?_
          refine gop_store 0 (v := .agg #[_, _]) (cs' := #[_, _]) rfl rfl Tryd.sizeOf23 rfl rfl rfl rfl (Nat.le_of_ble_eq_true rfl) rfl rfl ?_
          refine gops_nil ?_
          refine hN22 _ _ ?_
          refine gT [box b3 _, box b4 _, rowl _ _ _ _ _ _, fr] rfl ?_
          refine gfrom [(2, .slice Av _ cv), (3, .pointer _)] ⟨rfl, rfl, trivial⟩ fun σ => ?_
          refine gret fun w1 hM => ?_
          refine ⟨_, res2 rfl (rt (v := .slice Av _ cv) rfl) (rc 0 (cs := [_, _]) hM rfl rfl Tryd.isAgg23 Tryd.sizeOf23 rfl), ?_⟩
          have hFF : fileF text = ⟨0, 0⟩ := by rw [fileF, if_neg (fun h => h hc14), hsc, if_neg (fun h => h rfl), ← hrn, if_neg (by simp; omega)]
          exact ⟨_, _, rn, fr, by rw [hFF], rfl, by rw [fileV, if_pos hFF, hrn], hfr, hM.dropTo 2 rfl⟩
end Go.Proofs.YtijpaljdclhehaaDoor
namespace Go.Proofs.YtijpaljdclhehaaDoor
open Go.RowKit Go.Cf
set_option maxRecDepth 10000
set_option maxHeartbeats 2000000 in
theorem ownersExample_any (w : World) : Calls Tryd.prog 19 #[] w fun e w' => e = .returned (.bool true) ∧ Below w.heap.size w w' := by
  refine gcalls Tryd.func19 rfl Tryd.ntmps19 (Nat.le_of_ble_eq_true rfl) ?_
  refine gfrom [] trivial fun σ => ?_
  refine gseq fun N1 hN1 => ?_
  refine greg ?_
  refine gop (y_assign (v := .bool _) rfl) rfl rfl rfl ?_
  refine gops_nil ?_
  refine hN1 _ _ ?_
  refine gfrom [] trivial fun σ => ?_
  refine gseq fun N2 hN2 => ?_
  refine greg ?_
  refine gop_lit (vs := [.string _, .string _, .string _]) (cells := #[_, _, _]) Tryd.underlying37 Tryd.sizeOf9 Tryd.zeroValue9 rfl (by decide) (by decide) rfl rfl rfl rfl (fun b6 hb6 => ?_)
  refine gop_got (fun v T' => ∃ v1 rs' fr lo, w.heap.size ≤ lo ∧ v = .tuple #[v1, fv ⟨0, 0⟩] ∧ T' = [rowl ruleCells lo 32 2 (v1) (rs'), fr] ∧ rls rs' = fileV exT ∧ ∀ w1, fr.ok w1 → ∀ a ∈ rs', RuleR w1 0 a) (e_call (vs := [.slice (some _) _ _]) Tryd.func22 rfl (by kernel_rfl) rfl) (fun w hM => by have hc := parseFile_any w (some ⟨b6, 0, none⟩) 3 exT ((Rdl.of_box 0 (f := strCells) (fun _ => rfl) hM rfl rfl).mono (Nat.zero_le _)) (by decide); rw [oex1] at hc; exact hc.mono fun _ _ ⟨v, T1, rs', fr, h1, h2, h3, h4, h5⟩ => ⟨_, T1, h1, ⟨v, rs', fr, _, hM.low.size, rfl, h2, h3, fun w1 ho a ha => (h4 w1 ho a ha).mono (Nat.zero_le _)⟩, h5⟩) rfl rfl rfl ?_
  rintro _ _ ⟨v7, rs7, fr7, lo7, hlo7, rfl, rfl, hrs7, hfr7⟩
  have hl7 : rs7.length = 2 := by have h8 := congrArg List.length hrs7; rw [oex2] at h8; simpa using h8
  refine gops_fact (fun w hM => row_form (hM.ok _ (List.mem_of_getElem? (i := 1) rfl))) ?_
  rintro ⟨A7, c7, rfl, hc7, hm7, hn7⟩
  refine gop (y_move (v := .tuple #[.slice A7 _ c7, .agg #[_, _]]) rfl) rfl rfl rfl ?_
  refine gop (y_extract (v := .slice _ _ _) rfl rfl) rfl rfl rfl ?_
  refine gop (y_extract (v := .agg #[_, _]) rfl rfl) rfl rfl rfl ?_
  refine gop_alloc (cs := #[.int .i64 0, .int .i64 0]) Tryd.zeroValue23 rfl rfl (fun b2 hb2 => ?_)
  refine gop (y_assign (v := .slice _ _ _) rfl) rfl rfl rfl ?_
  refine gop_store 3 (v := .agg #[_, _]) (cs' := #[_, _]) rfl rfl Tryd.sizeOf23 rfl rfl rfl rfl (Nat.le_of_ble_eq_true rfl) rfl rfl ?_
  refine gops_nil ?_
  refine hN2 _ _ ?_
  refine gT [box b6 _, rowl _ _ _ _ _ _, fr7, box b2 _] rfl ?_
  refine gfrom [(1, .slice _ _ _), (2, .pointer _)] ⟨rfl, rfl, trivial⟩ fun σ => ?_
  refine gseq fun N3 hN3 => ?_
  refine greg ?_
  refine gop (y_move (v := .slice _ _ _) rfl) rfl rfl rfl ?_
  refine gop_got (fun v T' => ∃ v1 lo, w.heap.size ≤ lo ∧ v = .tuple #[v1, fv (⟨0, 0⟩)] ∧ T' = [rowl intCells lo 3 1 (v1) ([1, 3])]) (e_call (vs := [.slice _ _ _, _]) Tryd.func18 rfl (by kernel_rfl) rfl) (fun w hM => by have hc := of_any w A7 c7 (rs7) ⟨(row_rdl (f := ruleCells) (fun _ => rfl) (hM.ok _ (List.mem_of_getElem? (i := 1) rfl))).mono (Nat.zero_le _), hfr7 w (hM.ok _ (List.mem_of_getElem? (i := 2) rfl)), ⟨hc7, hm7, hn7, Nat.le_trans (show rs7.length * 40 ≤ 80 by omega) (by decide)⟩⟩ exPa; rw [hrs7, oex3, oex4] at hc; exact hc.mono fun _ _ ⟨v, T1, h1, h2, h3⟩ => ⟨_, T1, h1, ⟨v, _, hM.low.size, rfl, h2⟩, h3⟩) rfl rfl rfl ?_
  rintro _ _ ⟨v12, lo12, hlo12, rfl, rfl⟩
  refine gops_fact (fun w hM => row_form (hM.ok _ (List.mem_of_getElem? (i := 4) rfl))) ?_
  rintro ⟨A12, c12, rfl, hc12, hm12, hn12⟩
  refine gops_mem _ (weak_lower 4 rfl hlo12) ?_
  refine gop (y_move (v := .tuple #[.slice A12 _ c12, .agg #[_, _]]) rfl) rfl rfl rfl ?_
  refine gop (y_extract (v := .slice _ _ _) rfl rfl) rfl rfl rfl ?_
  refine gop (y_extract (v := .agg #[_, _]) rfl rfl) rfl rfl rfl ?_
  refine gop_alloc (cs := #[.int .i64 0, .int .i64 0]) Tryd.zeroValue23 rfl rfl (fun b4 hb4 => ?_)
  refine gop (y_assign (v := .slice _ _ _) rfl) rfl rfl rfl ?_
  refine gop_store 5 (v := .agg #[_, _]) (cs' := #[_, _]) rfl rfl Tryd.sizeOf23 rfl rfl rfl rfl (Nat.le_of_ble_eq_true rfl) rfl rfl ?_
  refine gops_nil ?_
  refine hN3 _ _ ?_
  refine gT [box b6 _, rowl _ _ _ _ _ _, fr7, box b2 _, rowl _ _ _ _ _ _, box b4 _] rfl ?_
  refine gfrom [(1, .slice _ _ _), (2, .pointer _), (3, .slice _ _ _), (4, .pointer _)] ⟨rfl, rfl, rfl, rfl, trivial⟩ fun σ => ?_
  refine gseq fun N4 hN4 => ?_
  refine greg ?_
  refine gop (y_fieldAddr_box fa23_0 rfl) rfl rfl rfl ?_
  refine gop (y_load Tryd.isAgg3 rfl (cell_box 3 rfl rfl)) rfl rfl rfl ?_
  refine gop (y_eql rfl rfl) rfl rfl rfl ?_
  refine gop (y_move (v := .bool _) rfl) rfl rfl rfl ?_
  refine gop_if (want := true) rfl rfl rfl rfl rfl rfl (fun hg18 => ?_) (fun hg18 => ?_)
  · 
    have hg18d := of_decide_eq_true hg18
    refine gop (y_bare (y_fieldAddr_box fa23_0 rfl)) rfl rfl rfl ?_
    refine gop_on rfl rfl rfl rfl hg18 ?_
    refine gop (y_bare (y_load Tryd.isAgg3 rfl (cell_box 5 rfl rfl))) rfl rfl rfl ?_
    refine gop_on rfl rfl rfl rfl hg18 ?_
    refine gop (y_bare (y_eql rfl rfl)) rfl rfl rfl ?_
    refine gop (y_pick_t (v := .bool _) rfl hg18 rfl) rfl rfl rfl ?_
    refine gop (y_move (v := .bool _) rfl) rfl rfl rfl ?_
    refine gop_if (want := true) rfl rfl rfl rfl rfl rfl (fun hg23 => ?_) (fun hg23 => ?_)
    · 
      have hg23d := of_decide_eq_true hg23
      refine gop (y_bare (y_move (v := .slice _ _ _) rfl)) rfl rfl rfl ?_
      refine gop_on rfl rfl rfl rfl hg23 ?_
      refine gop (y_bare (y_len Tryd.underlying29 rfl)) rfl rfl rfl ?_
      refine gop_on rfl rfl rfl rfl hg23 ?_
      refine gop (y_bare (y_eql rfl rfl)) rfl rfl rfl ?_
      refine gop (y_pick_t (v := .bool _) rfl hg23 rfl) rfl rfl rfl ?_
      refine gop (y_move (v := .bool _) rfl) rfl rfl rfl ?_
      refine gop_if (want := true) rfl rfl rfl rfl rfl rfl (fun hg28 => ?_) (fun hg28 => ?_)
      · 
        have hg28d := of_decide_eq_true hg28
        refine gop (y_bare (y_move (v := .slice _ _ _) rfl)) rfl rfl rfl ?_
        refine gop_on rfl rfl rfl rfl hg28 ?_
        refine gop_lit (vs := [.int _ _, .int _ _]) (cells := #[_, _]) Tryd.underlying30 Tryd.sizeOf3 Tryd.zeroValue3 rfl (by decide) (by decide) rfl rfl rfl rfl (fun b30 hb30 => ?_)
        refine gop_on rfl rfl rfl rfl hg28 ?_
        refine gop_pure (e_call (vs := [.slice _ _ _, .slice (some _) _ _]) Tryd.func20 rfl (by kernel_rfl) rfl) (fun w hM => sameInts_any w _ _ _ _ [1, 3] [1, 3] ((row_rdl (f := intCells) (fun _ => rfl) (hM.ok _ (List.mem_of_getElem? (i := 4) rfl))).mono (Nat.zero_le _)) ((Rdl.of_box 6 (f := intCells) (fun _ => rfl) hM rfl rfl).mono (Nat.zero_le _)) (by decide)) rfl rfl rfl ?_
        refine gop (y_pick_t (v := .bool _) rfl hg28 rfl) rfl rfl rfl ?_
        refine gop (y_assign (v := .bool _) rfl) rfl rfl rfl ?_
        refine gops_nil ?_
        refine hN4 _ _ ?_
        refine gT [box b6 _, rowl _ _ _ _ _ _, fr7, box b2 _, rowl _ _ _ _ _ _, box b4 _, box b30 _] rfl ?_
        refine gfrom [(0, .bool _)] ⟨rfl, trivial⟩ fun σ => ?_
        refine gret fun w1 hM => ?_
        refine ⟨_, res1 rfl (rt (v := .bool _) rfl), ?_⟩
        exact ⟨rfl, hM.low⟩
      · 
         rw [hl7] at hg28; exact absurd hg28 (by decide)
    · 
       exact absurd hg23 (by decide)
  · 
     exact absurd hg18 (by decide)
end Go.Proofs.YtijpaljdclhehaaDoor
namespace Go.Cf
open Go.RowKit
def digB (u : Int) : ByteArray := ⟨#[UInt8.ofNat (48 + u.toNat)]⟩
def lineTo (pat : ByteArray) (us : List Int) : ByteArray := us.foldl (fun s u => s ++ (⟨#[32]⟩ ++ digB u)) pat
def ruleLine (r : Rule) : ByteArray := lineTo r.pat r.users
def formatV (rs : List Rule) : List ByteArray := if rulesF rs = ⟨0, 0⟩ then rs.map ruleLine else []
def digN (u : Int) : UInt8 := UInt8.ofNat (48 + u.toNat)
theorem lineTo_next {pat : ByteArray} {us : List Int} {k : Nat} (hk : k < us.length) : lineTo pat (us.take (k + 1)) = lineTo pat (us.take k) ++ (⟨#[32]⟩ ++ digB us[k]) := by
  rw [List.take_succ_eq_append_getElem hk, lineTo, List.foldl_append]; rfl
theorem digB_size (u : Int) : (digB u).size = 1 := rfl
theorem lineTo_size : ∀ (us : List Int) (pat : ByteArray), (lineTo pat us).size = pat.size + 2 * us.length
  | [], _ => rfl
  | u :: us, pat => by
    show (lineTo (pat ++ (⟨#[32]⟩ ++ digB u)) us).size = _
    rw [lineTo_size us, ByteArray.size_append, ByteArray.size_append, digB_size, List.length_cons, show (⟨#[32]⟩ : ByteArray).size = 1 from rfl]
    omega
theorem lineTo_bs : ∀ (us : List Int) (pat : ByteArray), bsOf (lineTo pat us) = bsOf pat ++ us.flatMap (fun u => [32, digN u])
  | [], _ => by simp [lineTo]
  | u :: us, pat => by
    show bsOf (lineTo (pat ++ (⟨#[32]⟩ ++ digB u)) us) = _
    rw [lineTo_bs us, bsOf_append, bsOf_append, show bsOf ⟨#[32]⟩ = [32] from rfl, show bsOf (digB u) = [digN u] from rfl]
    simp
theorem splitB_line : ∀ (us : List Int) (a : Bs), (∀ c ∈ a, c ≠ 32) → (∀ u ∈ us, digN u ≠ 32) → splitB (a ++ us.flatMap (fun u => [32, digN u])) = a :: us.map (fun u => [digN u])
  | [], a, ha, _ => by simp [splitB_none a ha]
  | u :: us, a, ha, hu => by
    rw [List.flatMap_cons, List.map_cons, ← splitB_line us [digN u] (fun c hc => by rw [List.mem_singleton.1 hc]; exact hu u (by simp)) (fun x hx => hu x (by simp [hx])), ← splitB_app a _ ha]
    rfl
theorem dig_of {u : Int} (h0 : 0 ≤ u) (h1 : u ≤ 7) : digN u ≠ 32 ∧ digN u ≠ 10 ∧ digitW (digB u) = some u := by
  have : u = 0 ∨ u = 1 ∨ u = 2 ∨ u = 3 ∨ u = 4 ∨ u = 5 ∨ u = 6 ∨ u = 7 := by omega
  rcases this with rfl | rfl | rfl | rfl | rfl | rfl | rfl | rfl <;> exact ⟨by decide, by decide, by decide⟩
theorem readU_digs : ∀ {us : List Int}, (∀ u ∈ us, 0 ≤ u ∧ u ≤ 7) → readU (us.map digB) = (us, true)
  | [], _ => rfl
  | u :: us, h => by
    have h1 := h u (by simp)
    rw [List.map_cons, readU, (dig_of h1.1 h1.2).2.2, readU_digs (fun x hx => h x (by simp [hx]))]
theorem split_mem : ∀ (l : Bs) (c : UInt8), c ∈ l → c = 47 ∨ ∃ p ∈ splitL l, c ∈ p
  | [], c, h => by cases h
  | a :: r, c, h => by
    rw [splitL]
    by_cases ha : a = 47
    · rw [if_pos ha]
      rcases List.mem_cons.1 h with h | h
      · exact .inl (h.trans ha)
      · rcases split_mem r c h with h1 | ⟨p, hp, hc⟩
        · exact .inl h1
        · exact .inr ⟨p, by simp [hp], hc⟩
    · rw [if_neg ha]
      split
      · rename_i hh tt he
        rcases List.mem_cons.1 h with h | h
        · exact .inr ⟨a :: hh, by simp, by simp [h]⟩
        · rcases split_mem r c h with h1 | ⟨p, hp, hc⟩
          · exact .inl h1
          · rw [he] at hp
            rcases List.mem_cons.1 hp with rfl | hp
            · exact .inr ⟨a :: p, by simp, by simp [hc]⟩
            · exact .inr ⟨p, by simp [hp], hc⟩
      · rename_i he; exact absurd he (splitL_ne r)
def patB (n : Nat) : Prop := letterB n = true ∨ n = 42 ∨ n = 63
theorem part_bytes {s : ByteArray} (h : partCode s = 0) : ∀ i, i < s.size → patB (byteAt s i) := by
  unfold partCode at h
  split at h
  · cases h
  · split at h
    · rename_i hs
      obtain rfl := strEq_eq.1 hs
      intro i hi
      have hi2 : i < 2 := hi
      have : i = 0 ∨ i = 1 := by omega
      rcases this with rfl | rfl <;> exact .inr (.inl (by decide))
    · intro i hi
      have h3 := scanP_okay s.size (Nat.le_refl _) h i (by omega) hi
      unfold charBad at h3
      unfold patB
      by_cases h4 : byteAt s i = 42
      · exact .inr (.inl h4)
      · by_cases h5 : byteAt s i = 63
        · exact .inr (.inr h5)
        · exact .inl (by simpa [h4, h5] using h3)
theorem pat_mem {s : ByteArray} (h : patFault s = ⟨0, 0⟩) : ∀ c ∈ bsOf s, c = 47 ∨ patB c.toNat := by
  intro c hc
  rcases split_mem _ c hc with h1 | ⟨p, hp, hcp⟩
  · exact .inl h1
  · have hz := pat_parts h (baOf p) (List.mem_map.2 ⟨p, hp, rfl⟩)
    obtain ⟨i, hi, rfl⟩ := List.getElem_of_mem hcp
    have h2 := part_bytes hz i (by rw [baOf_size]; exact hi)
    rw [(byte_of (s := baOf p) (b := p[i]) (List.getElem?_eq_getElem hi)).2] at h2
    exact .inr h2
theorem patB_not {n : Nat} (h : patB n) : n ≠ 32 ∧ n ≠ 10 ∧ n ≠ 35 := by
  rcases h with h | h | h
  · unfold letterB at h
    have := of_decide_eq_true h
    omega
  · omega
  · omega
theorem pat_byte {s : ByteArray} (h : patFault s = ⟨0, 0⟩) : ∀ c ∈ bsOf s, c ≠ 32 ∧ c ≠ 10 ∧ c ≠ 35 := by
  intro c hc
  rcases pat_mem h c hc with rfl | h1
  · decide
  · have h2 := patB_not h1
    exact ⟨fun e => h2.1 (by rw [e]; rfl), fun e => h2.2.1 (by rw [e]; rfl), fun e => h2.2.2 (by rw [e]; rfl)⟩
theorem pat_pos {s : ByteArray} (h : patFault s = ⟨0, 0⟩) : 0 < s.size := by
  rcases Nat.eq_zero_or_pos s.size with h0 | h0
  · exfalso
    have e : s = ⟨#[]⟩ := ba_ext (by rw [h0]; rfl) (fun i hi => by omega)
    subst e
    exact absurd h (by decide +kernel)
  · exact h0
theorem line_ok {r : Rule} (h : ruleCode r = 0) : lineCode (ruleLine r) = 0 ∧ skipL (ruleLine r) = false ∧ lineR (ruleLine r) = r ∧ lineC (ruleLine r) = 0 := by
  obtain ⟨hp, hl, hu⟩ := ruleCode_zero h
  have hu7 : ∀ u ∈ r.users, 0 ≤ u ∧ u ≤ 7 := fun u hu' => ⟨((uCode_zero hu).1 u hu').1, ((uCode_zero hu).1 u hu').2.1⟩
  have hpb := pat_byte hp
  have hsz : (ruleLine r).size = r.pat.size + 2 * r.users.length := lineTo_size _ _
  have hp60 := patFault_size hp
  have hbs : bsOf (ruleLine r) = bsOf r.pat ++ r.users.flatMap (fun u => [32, digN u]) := lineTo_bs _ _
  have hcut : cutB (ruleLine r) = r.pat :: r.users.map digB := by
    unfold cutB
    rw [hbs, splitB_line _ _ (fun c hc => (hpb c hc).1) (fun u hu' => (dig_of (hu7 u hu').1 (hu7 u hu').2).1), List.map_cons, baOf_bsOf, List.map_map]
    rfl
  have hread : readU ((cutB (ruleLine r)).drop 1) = (r.users, true) := by
    rw [hcut]; exact readU_digs hu7
  have hlR : lineR (ruleLine r) = r := by
    rw [lineR, hread, hcut]; rfl
  refine ⟨?_, ?_, hlR, ?_⟩
  · rw [lineCode, if_neg (by omega), if_neg]
    rw [Go.firstIdx_none _ _ (fun b hb => ?_)]
    · omega
    · have hb' : b ∈ bsOf (ruleLine r) := hb
      rw [hbs] at hb'
      rcases List.mem_append.1 hb' with hb' | hb'
      · exact (hpb b hb').2.1
      · obtain ⟨u, hu', hb2⟩ := List.mem_flatMap.1 hb'
        simp only [List.mem_cons, List.not_mem_nil, or_false] at hb2
        rcases hb2 with rfl | rfl
        · decide
        · exact (dig_of (hu7 u hu').1 (hu7 u hu').2).2.1
  · unfold skipL
    rw [Bool.or_eq_false_iff]
    have hpos := pat_pos hp
    refine ⟨strEq_no.2 (fun e => ?_), decide_eq_false (fun e => ?_)⟩
    · rw [e] at hsz
      have : (⟨#[]⟩ : ByteArray).size = 0 := rfl
      omega
    · have h0 : 0 < (bsOf r.pat).length := by rw [bsOf_len]; exact hpos
      have h1 : (ruleLine r).data.toList[0]? = some (bsOf r.pat)[0] := by
        show (bsOf (ruleLine r))[0]? = _
        rw [hbs, List.getElem?_append_left h0, List.getElem?_eq_getElem h0]
      have h2 := (byte_of h1).2
      rw [e] at h2
      exact (hpb _ (List.getElem_mem h0)).2.2 (UInt8.toNat_inj.1 h2.symm)
  · rw [lineC, hread, if_pos rfl, hlR]; exact h
theorem readL_lines : ∀ {rs : List Rule}, (∀ r ∈ rs, ruleCode r = 0) → readL (rs.map ruleLine) = rs
  | [], _ => rfl
  | r :: rs, h => by
    obtain ⟨_, h2, h3, _⟩ := line_ok (h r (by simp))
    rw [List.map_cons, readL, h2, if_neg (by simp), h3, readL_lines (fun x hx => h x (by simp [hx]))]
theorem format_parse {rs : List Rule} (h : rulesF rs = ⟨0, 0⟩) : fileF (rs.map ruleLine) = ⟨0, 0⟩ ∧ fileV (rs.map ruleLine) = rs := by
  have hl := rulesF_len h
  have he := rulesF_each h
  have h1 : linesF (rs.map ruleLine) = ⟨0, 0⟩ := by
    rw [linesF, if_neg (by rw [List.length_map]; omega)]
    refine scan_ok fun j hj => ?_
    rw [List.getElem_map]
    exact (line_ok (he _ (List.getElem_mem _))).1
  have h2 : scan (fun _ s => badL s) (rs.map ruleLine) = ⟨0, 0⟩ := by
    refine scan_ok fun j hj => ?_
    rw [List.getElem_map]
    obtain ⟨_, h3, _, h4⟩ := line_ok (he _ (List.getElem_mem (by simpa using hj)))
    rw [badL, h3, if_neg (by simp), h4]
  have h3 := readL_lines he
  have hF : fileF (rs.map ruleLine) = ⟨0, 0⟩ := by
    rw [fileF, h1, h2, h3, if_neg (fun h => h rfl), if_neg (fun h => h rfl), if_neg (by omega)]
  exact ⟨hF, by rw [fileV, if_pos hF, h3]⟩
theorem law23_plain {rs : List Rule} (h : (rulesF rs).code = 0) : fileF (formatV rs) = ⟨0, 0⟩ ∧ fileV (formatV rs) = rs := by
  have h1 := rulesF_code h
  rw [formatV, if_pos h1]
  exact format_parse h1
def readP : Bs → List Int × Bool
  | [] => ([], true)
  | [_] => ([], false)
  | a :: d :: r => if a = 32 ∧ 48 ≤ d.toNat ∧ d.toNat ≤ 57 then (((d.toNat : Int) - 48) :: (readP r).1, (readP r).2) else ([], false)
theorem drop_bs {s : ByteArray} {i : Nat} (h : i < s.size) : ∃ b, (bsOf s).drop i = b :: (bsOf s).drop (i + 1) ∧ byteAt s i = b.toNat := by
  have hl : i < (bsOf s).length := by rw [bsOf_len]; exact h
  exact ⟨(bsOf s)[i], List.drop_eq_getElem_cons hl, (byte_of (s := s) (List.getElem?_eq_getElem hl)).2⟩
theorem refR_next {s : ByteArray} {i : Nat} (hi : i + 1 < s.size) (h : byteAt s i = 32) (h0 : 48 ≤ byteAt s (i + 1)) (h1 : byteAt s (i + 1) ≤ 57) : readP ((bsOf s).drop i) = (((byteAt s (i + 1) : Int) - 48) :: (readP ((bsOf s).drop (i + 2))).1, (readP ((bsOf s).drop (i + 2))).2) := by
  obtain ⟨b, h2, h3⟩ := drop_bs (show i < s.size by omega)
  obtain ⟨d, h4, h5⟩ := drop_bs hi
  rw [h2, h4, readP, if_pos ⟨UInt8.toNat_inj.1 (by rw [← h3, h]; rfl), by omega, by omega⟩, h5]
structure ReadIn (s : ByteArray) (n i : Nat) (us : List Int) : Prop where
  all : (readP ((bsOf s).drop n)).1 = us ++ (readP ((bsOf s).drop i)).1
  ok : (readP ((bsOf s).drop n)).2 = (readP ((bsOf s).drop i)).2
theorem ReadIn.zero (s : ByteArray) (n : Nat) : ReadIn s n n [] := ⟨rfl, rfl⟩
theorem ReadIn.next {s : ByteArray} {n i : Nat} {us : List Int} (h : ReadIn s n i us) (hi : i + 1 < s.size) (hb : byteAt s i = 32) (h0 : 48 ≤ byteAt s (i + 1)) (h1 : byteAt s (i + 1) ≤ 57) : ReadIn s n (i + 2) (us ++ [(byteAt s (i + 1) : Int) - 48]) := by
  have e := refR_next hi hb h0 h1
  exact ⟨by rw [h.all, e]; simp, by rw [h.ok, e]⟩
structure GroupC where
  pl : List Int
  A : Option Addr
  c : Nat
structure GrR (w : World) (lo : Nat) (a : GroupC) : Prop where
  rd : Rdl w lo 1 intCells a.A a.pl
  len : a.pl.length ≤ a.c
  max : a.c ≤ maxLen
theorem GrR.mono {w : World} {lo lo' : Nat} {a : GroupC} (h : GrR w lo a) (hl : lo' ≤ lo) : GrR w lo' a := ⟨h.rd.mono hl, h.len, h.max⟩
end Go.Cf
namespace Go.Cf
open Go.RowKit
section
variable {P : Program} {w0 : World} {T : List Reg} {ρ : Env} {dst : Option Tmp} {ty : TypeId} {pos : String} {af : Array Edge} {gd : Option (Nat × Bool)} {x y : Operand} {t yt : TypeId} {u : Int}
theorem y_digit (hx : ev ρ x = .int .u8 48) (hy : ev ρ y = .int .u8 u) (h0 : 0 ≤ u) (h1 : u ≤ 7) : Yield P w0 T ρ ⟨dst, .binOp .add t x y yt, ty, pos, af, gd⟩ (.int .u8 ((48 + u.toNat : Nat) : Int)) := by
  have h := y_add8 (P := P) (w0 := w0) (T := T) (dst := dst) (ty := ty) (pos := pos) (af := af) (gd := gd) (t := t) (yt := yt) hx hy (by omega) (by omega)
  rwa [show (48 : Int) + u = ((48 + u.toNat : Nat) : Int) by omega] at h
end
end Go.Cf
namespace Go.Proofs.YtijpaljdclhehaaDoor
open Go.RowKit Go.Cf
set_option maxRecDepth 10000
set_option maxHeartbeats 4000000 in
theorem format_any (w : World) (A : Option Addr) (c : Nat) (rs : List RuleC) (hR : RulesR w 0 A c rs) :
    Calls Tryd.prog 21 #[.slice A rs.length c] w fun e w' => ∃ v T', e = .returned (.tuple #[v, fv (rulesF (rls rs))]) ∧ T' = [rowl strCells w.heap.size 9 1 (v) (formatV (rls rs))] ∧ Mem w T' w' := by
  have hln := hR.sb.len
  have hmx := hR.sb.max
  unfold maxLen at hmx
  refine gcalls Tryd.func21 rfl Tryd.ntmps21 (Nat.le_of_ble_eq_true rfl) ?_
  refine gfrom [(0, .slice _ _ _)] ⟨rfl, trivial⟩ fun σ => ?_
  refine gseq fun N1 hN1 => ?_
  refine greg ?_
  refine gop (y_assign (v := .slice _ _ _) rfl) rfl rfl rfl ?_
  refine gop_alloc (cs := #[.int .i64 0, .int .i64 0]) Tryd.zeroValue23 rfl rfl (fun b3 hb3 => ?_)
  refine gops_nil ?_
  refine hN1 _ _ ?_
  refine gT [box b3 _] rfl ?_
  refine gfrom [(0, .slice _ _ _), (3, .pointer _)] ⟨rfl, rfl, trivial⟩ fun σ => ?_
  refine gseq fun N2 hN2 => ?_
  refine gseq fun N3 hN3 => ?_
  refine greg ?_
  refine gop (y_move (v := .slice _ _ _) rfl) rfl rfl rfl ?_
  refine gop_pure (e_call (vs := [.slice _ _ _]) Tryd.func28 rfl (by kernel_rfl) rfl) (fun w hM => ownValidate_any w A c rs (RulesR.lasts.base hR hM)) rfl rfl rfl ?_
  refine gop_alloc (cs := #[.int .i64 0, .int .i64 0]) Tryd.zeroValue23 rfl rfl (fun b4 hb4 => ?_)
  refine gop_store 1 (v := .agg #[_, _]) (cs' := #[_, _]) rfl rfl Tryd.sizeOf23 rfl rfl rfl rfl (Nat.le_of_ble_eq_true rfl) rfl rfl ?_
  refine gops_nil ?_
  refine hN3 _ _ ?_
  refine gT [box b3 _, box b4 _] rfl ?_
  refine gfrom [(0, .slice _ _ _), (3, .pointer _), (4, .pointer _)] ⟨rfl, rfl, rfl, trivial⟩ fun σ => ?_
  refine gseq fun N4 hN4 => ?_
  refine greg ?_
  refine gop (y_loads (cs := [_, _]) Tryd.isAgg23 Tryd.sizeOf23 rfl rfl (cells_box 1 rfl)) rfl rfl rfl ?_
  refine gop (y_build (vs := []) (cells := #[.int .i64 0, .int .i64 0]) rfl bd23_) rfl rfl rfl ?_
  refine gop (y_bin (vx := .agg #[_, _]) (vy := .agg #[_, _]) rfl rfl (fun w => eg23 _ _ _ _ _ w) (fun w => ne23 _ _ _ _ w)) rfl rfl rfl ?_
  refine gops_nil ?_
  refine hN4 _ _ ?_
  refine gfrom [(0, .slice _ _ _), (3, .pointer _), (4, .pointer _), (15, .bool _)] ⟨rfl, rfl, rfl, rfl, trivial⟩ fun σ => ?_
  refine gcond (b := _) rfl (fun hc15 => ?_) (fun hc15 => ?_)
  · 
    replace hc15 := fault_ne.1 hc15
    refine gseq fun N5 hN5 => ?_
    refine greg_e1 [] [(0, room b3 23 2)] (by kernel_rfl) ?_
    refine ge_take 0 (TK := [room b3 23 2, box b4 _]) rfl (by kernel_rfl) (by kernel_rfl) (by kernel_rfl) #[false, true, false] (by kernel_rfl) rfl (y_loads (cs := [_, _]) Tryd.isAgg23 Tryd.sizeOf23 rfl rfl (cells_box 1 rfl)) rfl rfl rfl (weak_room 0 rfl rfl) (listed' := #[true, false, false]) rfl ?_
    refine ge_take 1 (TK := [room b3 23 2, box b4 _]) rfl (by kernel_rfl) (by kernel_rfl) (by kernel_rfl) #[true, false, false] (by kernel_rfl) rfl (y_assign (v := .slice _ _ _) rfl) rfl rfl rfl (weak_room 0 rfl rfl) (listed' := #[true, true, false]) rfl ?_
    refine ge_one 2 (k' := 0) (listed' := #[true, true, true]) (by kernel_rfl) rfl rfl rfl ?_
    refine gop_store 0 (v := .agg #[_, _]) (cs' := #[_, _]) rfl rfl Tryd.sizeOf23 rfl rfl rfl rfl (Nat.le_of_ble_eq_true rfl) rfl rfl ?_
    refine gops_nil ?_
    refine ge_fin (TK := [room b3 23 2, box b4 _]) rfl (weak_room 0 rfl rfl) ?_
    refine ge_done (by kernel_rfl) ?_
    refine hN5 _ _ ?_
    refine gT [box b3 _, box b4 _] rfl ?_
    refine gfrom [(2, .slice _ _ _), (3, .pointer _)] ⟨rfl, rfl, trivial⟩ fun σ => ?_
    refine gret fun w1 hM => ?_
    refine ⟨_, res2 rfl (rt (v := .slice _ _ _) rfl) (rc 0 (cs := [_, _]) hM rfl rfl Tryd.isAgg23 Tryd.sizeOf23 rfl), ?_⟩
    exact ⟨_, _, rfl, by rw [formatV, if_neg hc15]; rfl, (mem_nilrow strCells 9 1 hM).dropTo 2 rfl⟩
  · 
    replace hc15 := fault_eq.1 hc15
    have hl20 := rulesF_len hc15
    simp only [List.length_map] at hl20
    have hez := rulesF_each hc15
    refine gskip ?_
    refine hN2 _ _ ?_
    refine gfrom [(0, .slice _ _ _), (3, .pointer _)] ⟨rfl, rfl, trivial⟩ fun σ => ?_
    refine gseq fun N6 hN6 => ?_
    refine greg ?_
    refine gop (y_assign (v := .slice _ _ _) rfl) rfl rfl rfl ?_
    refine gops_nil ?_
    refine hN6 _ _ ?_
    refine gfrom [(0, .slice _ _ _), (3, .pointer _), (5, .slice _ _ _)] ⟨rfl, rfl, rfl, trivial⟩ fun σ => ?_
    refine gseq fun N7 hN7 => ?_
    refine gseq fun N8 hN8 => ?_
    refine greg ?_
    refine gop (y_move (v := .slice _ _ _) rfl) rfl rfl rfl ?_
    refine gop (y_len Tryd.underlying29 rfl) rfl rfl rfl ?_
    refine gop (y_move (v := .int _ _) rfl) rfl rfl rfl ?_
    refine gops_nil ?_
    refine hN8 _ _ ?_
    refine gfrom [(3, .pointer _), (5, .slice _ _ _), (17, .slice _ _ _), (18, .int _ _), (19, .int _ _)] ⟨rfl, rfl, rfl, rfl, rfl, trivial⟩ fun σ => ?_
    refine gblock ?_
    refine gnilrow strCells 9 1 ?_
    refine gfrom2 [(5, .slice _ _ _), (19, .int _ _)] [(3, .pointer _), (17, .slice _ _ _), (18, .int _ _)] ⟨rfl, rfl, trivial⟩ ⟨rfl, rfl, rfl, trivial⟩ fun σ => ?_
    refine gloop2 (G := Nat × Option Addr × Nat × List ByteArray) (fun (k, Av, cv, L) => k ≤ rs.length ∧ L = ((rls rs).take k).map ruleLine) (fun (k, Av, cv, L) => rs.length - k) (fun (k, Av, cv, L) => [(5, .slice Av L.length cv), (19, .int .i64 (k : Int))]) (fun (k, Av, cv, L) => [(2, rowl strCells w.heap.size 9 1 (.slice Av L.length cv) (L))]) ((0, none, 0, [])) ?h0 ⟨rfl, rfl, trivial⟩ ⟨rfl, rfl, rfl, trivial⟩ rfl ?round
    case h0 => exact ⟨Nat.zero_le _, rfl⟩
    case round =>
      rintro ⟨k, Av, cv, L⟩ hφ σ
      obtain ⟨hk, hL⟩ := hφ
      have hLl : L.length ≤ 20 := by rw [hL]; simp; omega
      refine gT [box b3 _, box b4 _, rowl _ _ _ _ _ _] rfl ?_
      refine gseq fun N9 hN9 => ?_
      refine greg ?_
      refine gop (y_lss rfl rfl) rfl rfl rfl ?_
      refine gops_nil ?_
      refine hN9 _ _ ?_
      refine gfrom [(3, .pointer _), (5, .slice Av _ cv), (17, .slice _ _ _), (18, .int _ _), (19, .int _ _), (20, .bool _)] ⟨rfl, rfl, rfl, rfl, rfl, rfl, trivial⟩ fun σ => ?_
      refine gseq fun N10 hN10 => ?_
      refine gcond (b := _) rfl (fun hc20 => ?_) (fun hc20 => ?_)
      · 
        replace hc20 := of_decide_eq_true hc20
        have hk1 : k < rs.length := by omega
        obtain ⟨ad, rfl, -, hca⟩ := hR.rd.at_ hk1
        obtain ⟨hp0, hl4, hu0⟩ := ruleCode_zero (hez _ (List.mem_map.2 ⟨_, List.getElem_mem hk1, rfl⟩))
        have hRk := hR.each _ (List.getElem_mem hk1)
        have hp60 := patFault_size hp0
        obtain ⟨⟨⟨pat, us⟩, B, d⟩, hrk⟩ : ∃ r, rs[k] = r := ⟨_, rfl⟩
        rw [hrk] at hca hl4 hu0 hRk hp60
        replace hca : ∀ j u, ([.string pat, .slice B us.length d] : List Value)[j]? = some u → w.cell? (ad.add (k * 2 + j)) = some u := hca
        have hu7 := (uCode_zero hu0).1
        have hdm : d ≤ maxLen := hRk.sb.max
        have hrdk : Rdl w 0 1 intCells B us := hRk.rd
        have hlu : us.length ≤ 4 := hl4
        have hps : pat.size ≤ 60 := hp60
        refine gskip ?_
        refine hN10 _ _ ?_
        refine gfrom [(3, .pointer _), (5, .slice Av _ cv), (17, .slice _ _ _), (18, .int _ _), (19, .int _ _)] ⟨rfl, rfl, rfl, rfl, rfl, trivial⟩ fun σ => ?_
        refine gseq fun N11 hN11 => ?_
        refine gblock ?_
        refine gseq fun N12 hN12 => ?_
        refine greg ?_
        refine gop (y_indexAddr (m := k) Tryd.underlying29 Tryd.sizeOf32 rfl rfl (by omega) (by omega) (by omega)) rfl rfl rfl ?_
        refine gop (y_loads (cs := [_, _]) Tryd.isAgg32 Tryd.sizeOf32 rfl rfl (cells_base hca)) rfl rfl rfl ?_
        refine gop_alloc (cs := #[.string .empty, .slice none 0 0]) Tryd.zeroValue32 rfl rfl (fun b7 hb7 => ?_)
        refine gop_store 3 (v := .agg #[_, _]) (cs' := #[_, _]) rfl rfl Tryd.sizeOf32 rfl rfl rfl rfl (Nat.le_of_ble_eq_true rfl) rfl rfl ?_
        refine gops_nil ?_
        refine hN12 _ _ ?_
        refine gT [box b3 _, box b4 _, rowl _ _ _ _ _ _, box b7 _] rfl ?_
        refine gfrom [(3, .pointer _), (5, .slice Av _ cv), (7, .pointer _), (17, .slice _ _ _), (18, .int _ _), (19, .int _ _)] ⟨rfl, rfl, rfl, rfl, rfl, rfl, trivial⟩ fun σ => ?_
        refine gseq fun N13 hN13 => ?_
        refine greg ?_
        refine gop (y_fieldAddr_box fa32_0 rfl) rfl rfl rfl ?_
        refine gop (y_load Tryd.isAgg9 rfl (cell_box 3 rfl rfl)) rfl rfl rfl ?_
        refine gop (y_assign (v := .string _) rfl) rfl rfl rfl ?_
        refine gops_nil ?_
        refine hN13 _ _ ?_
        refine gfrom [(3, .pointer _), (5, .slice Av _ cv), (7, .pointer _), (8, .string _), (17, .slice _ _ _), (18, .int _ _), (19, .int _ _)] ⟨rfl, rfl, rfl, rfl, rfl, rfl, rfl, trivial⟩ fun σ => ?_
        refine gseq fun N14 hN14 => ?_
        refine gseq fun N15 hN15 => ?_
        refine greg ?_
        refine gop (y_fieldAddr_box fa32_1 rfl) rfl rfl rfl ?_
        refine gop (y_load Tryd.isAgg30 rfl (cell_box 3 rfl rfl)) rfl rfl rfl ?_
        refine gop (y_len Tryd.underlying30 rfl) rfl rfl rfl ?_
        refine gop (y_move (v := .int _ _) rfl) rfl rfl rfl ?_
        refine gops_nil ?_
        refine hN15 _ _ ?_
        refine gfrom [(3, .pointer _), (5, .slice Av _ cv), (8, .string _), (17, .slice _ _ _), (18, .int _ _), (19, .int _ _), (26, .slice _ _ _), (27, .int _ _), (28, .int _ _)] ⟨rfl, rfl, rfl, rfl, rfl, rfl, rfl, rfl, rfl, trivial⟩ fun σ => ?_
        refine gblock ?_
        refine gfrom2 [(8, .string _), (28, .int _ _)] [(3, .pointer _), (5, .slice Av _ cv), (17, .slice _ _ _), (18, .int _ _), (19, .int _ _), (26, .slice _ _ _), (27, .int _ _)] ⟨rfl, rfl, trivial⟩ ⟨rfl, rfl, rfl, rfl, rfl, rfl, rfl, trivial⟩ fun σ => ?_
        refine gloop2 (G := Nat) (fun j => j ≤ us.length) (fun j => us.length - j) (fun j => [(8, .string (lineTo pat (us.take j))), (28, .int .i64 (j : Int))]) (fun j => []) (0) ?h0 ⟨rfl, rfl, trivial⟩ ⟨rfl, rfl, rfl, rfl, rfl, rfl, rfl, trivial⟩ rfl ?round
        case h0 => exact Nat.zero_le _
        case round =>
          intro j hφ σ
          have hj : j ≤ us.length := hφ
          refine gseq fun N16 hN16 => ?_
          refine greg ?_
          refine gop (y_lss rfl rfl) rfl rfl rfl ?_
          refine gops_nil ?_
          refine hN16 _ _ ?_
          refine gfrom [(3, .pointer _), (5, .slice Av _ cv), (8, .string _), (17, .slice _ _ _), (18, .int _ _), (19, .int _ _), (26, .slice _ _ _), (27, .int _ _), (28, .int _ _), (29, .bool _)] ⟨rfl, rfl, rfl, rfl, rfl, rfl, rfl, rfl, rfl, rfl, trivial⟩ fun σ => ?_
          refine gseq fun N17 hN17 => ?_
          refine gcond (b := _) rfl (fun hc29 => ?_) (fun hc29 => ?_)
          · 
            replace hc29 := of_decide_eq_true hc29
            have hj1 : j < us.length := by omega
            obtain ⟨ad2, rfl, -, hcu⟩ := hrdk.at_ hj1
            have hu8 := hu7 us[j] (List.getElem_mem hj1)
            refine gskip ?_
            refine hN17 _ _ ?_
            refine gfrom [(3, .pointer _), (5, .slice Av _ cv), (8, .string _), (17, .slice _ _ _), (18, .int _ _), (19, .int _ _), (26, .slice _ _ _), (27, .int _ _), (28, .int _ _)] ⟨rfl, rfl, rfl, rfl, rfl, rfl, rfl, rfl, rfl, trivial⟩ fun σ => ?_
            refine gseq fun N18 hN18 => ?_
            refine gblock ?_
            refine gseq fun N19 hN19 => ?_
            refine greg ?_
            refine gop (y_indexAddr (m := j) Tryd.underlying30 Tryd.sizeOf3 rfl rfl (by omega) (by omega) (by omega)) rfl rfl rfl ?_
            refine gop (y_load Tryd.isAgg3 rfl (cell_base (hcu 0 _ rfl))) rfl rfl rfl ?_
            refine gop (y_assign (v := .int _ _) rfl) rfl rfl rfl ?_
            refine gops_nil ?_
            refine hN19 _ _ ?_
            refine gfrom [(3, .pointer _), (5, .slice Av _ cv), (8, .string _), (10, .int _ _), (17, .slice _ _ _), (18, .int _ _), (19, .int _ _), (26, .slice _ _ _), (27, .int _ _), (28, .int _ _)] ⟨rfl, rfl, rfl, rfl, rfl, rfl, rfl, rfl, rfl, rfl, trivial⟩ fun σ => ?_
            refine greg ?_
            refine gop (y_move (v := .string _) rfl) rfl rfl rfl ?_
            refine gop (y_move (v := .int _ _) rfl) rfl rfl rfl ?_
            refine gop (y_toByte (by kernel_rfl) Tryd.underlying5 rfl (by omega) (by omega)) rfl rfl rfl ?_
            refine gop (y_digit rfl rfl hu8.1 hu8.2.1) rfl rfl rfl ?_
            refine gop_lit (vs := [.int _ _]) (cells := #[_]) Tryd.underlying71 Tryd.sizeOf5 Tryd.zeroValue5 rfl (by decide) (by decide) rfl rfl rfl rfl (fun b36 hb36 => ?_)
            refine gop (y_byteStr 4 Tryd.underlying71 Tryd.underlying5 Tryd.underlying9 rfl (by omega) rfl) rfl rfl rfl ?_
            refine gop (y_cat rfl rfl (show (1 : Nat) + 1 ≤ 9223372036854775807 by decide)) rfl rfl rfl ?_
            refine gop (y_cat rfl rfl (by rw [lineTo_size, ByteArray.size_append, List.length_take]; show pat.size + 2 * min j us.length + (1 + 1) ≤ _; omega)) rfl rfl rfl ?_
            refine gop (y_assign (v := .string _) rfl) rfl rfl rfl ?_
            refine gops_nil ?_
            refine hN18 _ _ ?_
            refine gT [box b3 _, box b4 _, rowl _ _ _ _ _ _, box b7 _, box b36 _] rfl ?_
            refine gfrom [(3, .pointer _), (5, .slice Av _ cv), (8, .string _), (17, .slice _ _ _), (18, .int _ _), (19, .int _ _), (26, .slice _ _ _), (27, .int _ _), (28, .int _ _)] ⟨rfl, rfl, rfl, rfl, rfl, rfl, rfl, rfl, rfl, trivial⟩ fun σ => ?_
            refine greg ?_
            refine gop (y_add rfl rfl ⟨by omega, by omega⟩) rfl rfl rfl ?_
            refine gop (y_move (v := .int _ _) rfl) rfl rfl rfl ?_
            refine gops_nil ?_
            refine gnext2 (j + 1) (by omega) (show j + 1 ≤ _ by omega) ⟨congrArg Value.string (lineTo_next hj1).symm, rfl, trivial⟩ ⟨rfl, rfl, rfl, rfl, rfl, rfl, rfl, trivial⟩ ⟨_, rfl⟩
          · 
            replace hc29 := of_decide_eq_false hc29
            have hB : lineTo pat (us.take j) = ruleLine ⟨pat, us⟩ := by rw [List.take_of_length_le (by omega)]; rfl
            refine gexit ?_
            refine hN14 _ _ ?_
            refine gfrom [(3, .pointer _), (5, .slice Av _ cv), (8, .string _), (17, .slice _ _ _), (18, .int _ _), (19, .int _ _)] ⟨rfl, rfl, rfl, rfl, rfl, rfl, trivial⟩ fun σ => ?_
            refine greg ?_
            refine gop (y_move (v := .slice Av _ cv) rfl) rfl rfl rfl ?_
            refine gop (y_move (v := .string _) rfl) rfl rfl rfl ?_
            refine gop_lit (vs := [.string _]) (cells := #[_]) Tryd.underlying37 Tryd.sizeOf9 Tryd.zeroValue9 rfl (by decide) (by decide) rfl rfl rfl rfl (fun b43 hb43 => ?_)
            refine gop_append 2 (f := strCells) (l2 := [lineTo pat (us.take j)]) Tryd.underlying37 el9 wide_str (v := .slice Av _ cv) rfl rfl rfl rfl (fun h => by cases h) (by simp [maxLen]; omega) (by simp; omega) (src_box 4 rfl rfl) rfl (fun v44 => ?_)
            refine gops_fact (fun w hM => own_form (hM.own 2 rfl)) ?_
            rintro ⟨A44, c44, rfl, hc44, hm44⟩
            refine gop (y_assign (v := .slice A44 _ c44) rfl) rfl rfl rfl ?_
            refine gops_nil ?_
            refine hN11 _ _ ?_
            refine gT [box b3 _, box b4 _, rowl _ _ _ _ _ _, box b7 _, box b43 _] rfl ?_
            refine gfrom [(3, .pointer _), (5, .slice A44 _ c44), (17, .slice _ _ _), (18, .int _ _), (19, .int _ _)] ⟨rfl, rfl, rfl, rfl, rfl, trivial⟩ fun σ => ?_
            refine greg ?_
            refine gop (y_add rfl rfl ⟨by omega, by omega⟩) rfl rfl rfl ?_
            refine gop (y_move (v := .int _ _) rfl) rfl rfl rfl ?_
            refine gops_nil ?_
            refine gnext2 ((k + 1, A44, c44, L ++ [lineTo pat (us.take j)])) (by show rs.length - (k + 1) < rs.length - k; omega) (⟨by show k + 1 ≤ _; omega, by rw [hL, hB, List.take_succ_eq_append_getElem (show k < (rls rs).length by simpa using hk1), List.map_append]; simp [hrk]⟩) ⟨rfl, rfl, trivial⟩ ⟨rfl, rfl, rfl, trivial⟩ ⟨_, rfl⟩
      · 
        replace hc20 := of_decide_eq_false hc20
        have hfin : L = formatV (rls rs) := by rw [hL, formatV, if_pos hc15, List.take_of_length_le (by simp; omega)]
        refine gexit ?_
        refine hN7 _ _ ?_
        refine gfrom [(3, .pointer _), (5, .slice Av _ cv)] ⟨rfl, rfl, trivial⟩ fun σ => ?_
        refine gseq fun N20 hN20 => ?_
        refine greg ?_
        refine gop (y_move (v := .slice Av _ cv) rfl) rfl rfl rfl ?_
        refine gop (y_build (vs := []) (cells := #[.int .i64 0, .int .i64 0]) rfl bd23_) rfl rfl rfl ?_
        refine gop (y_assign (v := .slice Av _ cv) rfl) rfl rfl rfl ?_
        refine gop_store 0 (v := .agg #[_, _]) (cs' := #[_, _]) rfl rfl Tryd.sizeOf23 rfl rfl rfl rfl (Nat.le_of_ble_eq_true rfl) rfl rfl ?_
        refine gops_nil ?_
        refine hN20 _ _ ?_
        refine gT [box b3 _, box b4 _, rowl _ _ _ _ _ _] rfl ?_
        refine gfrom [(2, .slice Av _ cv), (3, .pointer _)] ⟨rfl, rfl, trivial⟩ fun σ => ?_
        refine gret fun w1 hM => ?_
        refine ⟨_, res2 rfl (rt (v := .slice Av _ cv) rfl) (rc 0 (cs := [_, _]) hM rfl rfl Tryd.isAgg23 Tryd.sizeOf23 rfl), ?_⟩
        exact ⟨_, _, by rw [hc15], by rw [← hfin]; rfl, hM.dropTo 2 rfl⟩
end Go.Proofs.YtijpaljdclhehaaDoor
namespace Go.Proofs.YtijpaljdclhehaaDoor
open Go.RowKit Go.Cf
set_option maxRecDepth 10000
set_option maxHeartbeats 4000000 in
theorem law23_any (w : World) (A : Option Addr) (c : Nat) (rs : List RuleC) (hR : RulesR w 0 A c rs) : Calls Tryd.prog 7 #[.slice A rs.length c] w fun e w' => e = .returned (.bool true) ∧ Below w.heap.size w w' := by
  have hln := hR.sb.len
  have hmx := hR.sb.max
  unfold maxLen at hmx
  refine gcalls Tryd.func7 rfl Tryd.ntmps7 (Nat.le_of_ble_eq_true rfl) ?_
  refine gfrom [(0, .slice _ _ _)] ⟨rfl, trivial⟩ fun σ => ?_
  refine gseq fun N1 hN1 => ?_
  refine greg ?_
  refine gop (y_assign (v := .bool _) rfl) rfl rfl rfl ?_
  refine gops_nil ?_
  refine hN1 _ _ ?_
  refine gfrom [(0, .slice _ _ _)] ⟨rfl, trivial⟩ fun σ => ?_
  refine gseq fun N2 hN2 => ?_
  refine greg ?_
  refine gop (y_move (v := .slice _ _ _) rfl) rfl rfl rfl ?_
  refine gop_got (fun v T' => ∃ v1 lo, w.heap.size ≤ lo ∧ v = .tuple #[v1, fv (rulesF (rls rs))] ∧ T' = [rowl strCells lo 9 1 (v1) (formatV (rls rs))]) (e_call (vs := [.slice _ _ _]) Tryd.func21 rfl (by kernel_rfl) rfl) (fun w hM => by have hc := format_any w A c rs (RulesR.lasts.base hR hM); exact hc.mono fun _ _ ⟨v, T1, h1, h2, h3⟩ => ⟨_, T1, h1, ⟨v, _, hM.low.size, rfl, h2⟩, h3⟩) rfl rfl rfl ?_
  rintro _ _ ⟨v9, lo9, hlo9, rfl, rfl⟩
  refine gops_fact (fun w hM => row_form (hM.ok _ (List.mem_of_getElem? (i := 0) rfl))) ?_
  rintro ⟨A9, c9, rfl, hc9, hm9, hn9⟩
  refine gop (y_move (v := .tuple #[.slice A9 _ c9, .agg #[_, _]]) rfl) rfl rfl rfl ?_
  refine gop (y_extract (v := .slice _ _ _) rfl rfl) rfl rfl rfl ?_
  refine gop (y_extract (v := .agg #[_, _]) rfl rfl) rfl rfl rfl ?_
  refine gop_alloc (cs := #[.int .i64 0, .int .i64 0]) Tryd.zeroValue23 rfl rfl (fun b4 hb4 => ?_)
  refine gop (y_assign (v := .slice _ _ _) rfl) rfl rfl rfl ?_
  refine gop_store 1 (v := .agg #[_, _]) (cs' := #[_, _]) rfl rfl Tryd.sizeOf23 rfl rfl rfl rfl (Nat.le_of_ble_eq_true rfl) rfl rfl ?_
  refine gops_nil ?_
  refine hN2 _ _ ?_
  refine gT [rowl _ _ _ _ _ _, box b4 _] rfl ?_
  refine gfrom [(0, .slice _ _ _), (3, .slice _ _ _), (4, .pointer _)] ⟨rfl, rfl, rfl, trivial⟩ fun σ => ?_
  refine gseq fun N3 hN3 => ?_
  refine greg ?_
  refine gop (y_move (v := .slice _ _ _) rfl) rfl rfl rfl ?_
  refine gop_got (fun v T' => ∃ v1 rs' fr lo, w.heap.size ≤ lo ∧ v = .tuple #[v1, fv (fileF (formatV (rls rs)))] ∧ T' = [rowl ruleCells lo 32 2 (v1) (rs'), fr] ∧ rls rs' = fileV (formatV (rls rs)) ∧ ∀ w1, fr.ok w1 → ∀ a ∈ rs', RuleR w1 0 a) (e_call (vs := [.slice _ _ _]) Tryd.func22 rfl (by kernel_rfl) rfl) (fun w hM => by have hc := parseFile_any w A9 c9 (formatV (rls rs)) ((row_rdl (f := strCells) (fun _ => rfl) (hM.ok _ (List.mem_of_getElem? (i := 0) rfl))).mono (Nat.zero_le _)) (Nat.le_trans hc9 hm9); exact hc.mono fun _ _ ⟨v, T1, rs', fr, h1, h2, h3, h4, h5⟩ => ⟨_, T1, h1, ⟨v, rs', fr, _, hM.low.size, rfl, h2, h3, fun w1 ho a ha => (h4 w1 ho a ha).mono (Nat.zero_le _)⟩, h5⟩) rfl rfl rfl ?_
  rintro _ _ ⟨v14, rs14, fr14, lo14, hlo14, rfl, rfl, hrs14, hfr14⟩
  refine gops_fact (fun w hM => row_form (hM.ok _ (List.mem_of_getElem? (i := 2) rfl))) ?_
  rintro ⟨A14, c14, rfl, hc14, hm14, hn14⟩
  refine gop (y_move (v := .tuple #[.slice A14 _ c14, .agg #[_, _]]) rfl) rfl rfl rfl ?_
  refine gop (y_extract (v := .slice _ _ _) rfl rfl) rfl rfl rfl ?_
  refine gop (y_extract (v := .agg #[_, _]) rfl rfl) rfl rfl rfl ?_
  refine gop_alloc (cs := #[.int .i64 0, .int .i64 0]) Tryd.zeroValue23 rfl rfl (fun b6 hb6 => ?_)
  refine gop (y_assign (v := .slice _ _ _) rfl) rfl rfl rfl ?_
  refine gop_store 4 (v := .agg #[_, _]) (cs' := #[_, _]) rfl rfl Tryd.sizeOf23 rfl rfl rfl rfl (Nat.le_of_ble_eq_true rfl) rfl rfl ?_
  refine gops_nil ?_
  refine hN3 _ _ ?_
  refine gT [rowl _ _ _ _ _ _, box b4 _, rowl _ _ _ _ _ _, fr14, box b6 _] rfl ?_
  refine gfrom [(0, .slice _ _ _), (4, .pointer _), (5, .slice _ _ _), (6, .pointer _)] ⟨rfl, rfl, rfl, rfl, trivial⟩ fun σ => ?_
  refine gseq fun N4 hN4 => ?_
  refine gseq fun N5 hN5 => ?_
  refine greg ?_
  refine gop_pure (e_call (vs := []) Tryd.func19 rfl (by kernel_rfl) rfl) (fun w hM => ownersExample_any w) rfl rfl rfl ?_
  refine gop (y_not rfl) rfl rfl rfl ?_
  refine gops_nil ?_
  refine hN5 _ _ ?_
  refine gfrom [(0, .slice _ _ _), (4, .pointer _), (5, .slice _ _ _), (6, .pointer _), (18, .bool _)] ⟨rfl, rfl, rfl, rfl, rfl, trivial⟩ fun σ => ?_
  refine gcond (b := _) rfl (fun hc18 => ?_) (fun hc18 => ?_)
  · 
     exact absurd hc18 (by decide)
  · 
    replace hc18 := not_f hc18
    refine gskip ?_
    refine hN4 _ _ ?_
    refine gfrom [(0, .slice _ _ _), (4, .pointer _), (5, .slice _ _ _), (6, .pointer _)] ⟨rfl, rfl, rfl, rfl, trivial⟩ fun σ => ?_
    refine gseq fun N6 hN6 => ?_
    refine greg ?_
    refine gop (y_fieldAddr_box fa23_0 rfl) rfl rfl rfl ?_
    refine gop (y_load Tryd.isAgg3 rfl (cell_box 1 rfl rfl)) rfl rfl rfl ?_
    refine gop (y_neq rfl rfl) rfl rfl rfl ?_
    refine gop (y_move (v := .bool _) rfl) rfl rfl rfl ?_
    refine gop_if (want := false) rfl rfl rfl rfl rfl rfl (fun hg22 => ?_) (fun hg22 => ?_)
    · 
      have hg22d := Decidable.not_not.1 (of_decide_eq_false hg22)
      have hl23 := law23_plain hg22d
      refine gop (y_bare (y_fieldAddr_box fa23_0 rfl)) rfl rfl rfl ?_
      refine gop_on rfl rfl rfl rfl hg22 ?_
      refine gop (y_bare (y_load Tryd.isAgg3 rfl (cell_box 4 rfl rfl))) rfl rfl rfl ?_
      refine gop_on rfl rfl rfl rfl hg22 ?_
      refine gop (y_bare (y_eql rfl rfl)) rfl rfl rfl ?_
      refine gop_on rfl rfl rfl rfl hg22 ?_
      refine gop (y_bare (y_move (v := .bool _) rfl)) rfl rfl rfl ?_
      refine gop_if (want := true) rfl rfl rfl rfl rfl rfl (fun hg26 => ?_) (fun hg26 => ?_)
      · 
        have hg26d := of_decide_eq_true hg26
        refine gop (y_bare (y_move (v := .slice _ _ _) rfl)) rfl rfl rfl ?_
        refine gop_on rfl rfl rfl rfl hg26 ?_
        refine gop (y_bare (y_move (v := .slice _ _ _) rfl)) rfl rfl rfl ?_
        refine gop_on rfl rfl rfl rfl hg26 ?_
        refine gop_pure (e_call (vs := [.slice _ _ _, .slice _ _ _]) Tryd.func23 rfl (by kernel_rfl) rfl) (fun w hM => sameRules_any w A14 A c14 c rs14 rs ((row_rdl (f := ruleCells) (fun _ => rfl) (hM.ok _ (List.mem_of_getElem? (i := 2) rfl))).mono (Nat.zero_le _)) (hfr14 w (hM.ok _ (List.mem_of_getElem? (i := 3) rfl))) (hR.rd.base hM) (fun a ha => RuleR.lasts.base (hR.each a ha) hM) (Nat.le_trans hc14 hm14)) rfl rfl rfl ?_
        refine gop_on rfl rfl rfl rfl hg22 ?_
        refine gop (y_bare (y_pick_t (v := .bool _) rfl hg26 rfl)) rfl rfl rfl ?_
        refine gop (y_pick_f (v := .bool _) rfl hg22 rfl) rfl rfl rfl ?_
        refine gop (y_assign (v := .bool _) rfl) rfl rfl rfl ?_
        refine gops_nil ?_
        refine hN6 _ _ ?_
        refine gfrom [(2, .bool _)] ⟨rfl, trivial⟩ fun σ => ?_
        refine gret fun w1 hM => ?_
        refine ⟨_, res1 rfl (rt (v := .bool _) rfl), ?_⟩
        first | exact ⟨rfl, hM.low⟩ | exact ⟨by rw [decide_eq_true (show rls rs14 = rls rs by rw [hrs14, hl23.2])], hM.low⟩
      · 
         exact absurd (congrArg Fault.code hl23.1) (of_decide_eq_false hg26)
    · 
      have hg22d := of_decide_eq_true hg22
      refine gop_off rfl rfl rfl rfl hg22 rfl rfl ?_
      refine gop_off rfl rfl rfl rfl hg22 rfl rfl ?_
      refine gop_off rfl rfl rfl rfl hg22 rfl rfl ?_
      refine gop_offu rfl rfl rfl rfl rfl rfl ?_
      refine gop_offu rfl rfl rfl rfl rfl rfl ?_
      refine gop_offu rfl rfl rfl rfl rfl rfl ?_
      refine gop_off rfl rfl rfl rfl hg22 rfl rfl ?_
      refine gop (y_pick_t (v := .bool _) rfl hg22 rfl) rfl rfl rfl ?_
      refine gop (y_assign (v := .bool _) rfl) rfl rfl rfl ?_
      refine gops_nil ?_
      refine hN6 _ _ ?_
      refine gfrom [(2, .bool _)] ⟨rfl, trivial⟩ fun σ => ?_
      refine gret fun w1 hM => ?_
      refine ⟨_, res1 rfl (rt (v := .bool _) rfl), ?_⟩
      first | exact ⟨rfl, hM.low⟩ | exact ⟨by rw [decide_eq_true (show rls rs14 = rls rs by rw [hrs14, hl23.2])], hM.low⟩
end Go.Proofs.YtijpaljdclhehaaDoor
namespace Go.Cf
open Go.ChangeShapes Go.WideShapes Go.ChangeAt Go.RowKit Go.Deep
theorem law_lift_row {H : Type} {enc : TypeId × Value → H} {C : Checked} {os : Os} {f : FuncId} {fn : Func} {s : OpenSpec} {F : Stop.Interp} {conds : List PathCond} {tb : TypeId} {laid : List (String × DataW Unit)}
    (own : ownKnob C.prog.godebug = none) (started : os.Started) (noInit : C.prog.inits.idxOf? f = none) (hfn : C.prog.funcs[f]? = some fn)
    (witness : ∃ (w : World) (tape : Tape) (i : Input), w.os = os ∧ (w.forCall tape i).Shaped C.prog ∧ i.vars = [] ∧ Input.okWide C.prog (w.forCall tape i) .any w.heap.size f i ∧
      s.preRow enc C.prog fn conds false laid (w.forCall tape i).memory i.args ∧ Assume.holds {} C.prog (lone (Frame.enter C.prog f i.args .normal) [] (w.forCall tape i)))
    (hl : laidOutB C.prog = true) (hread : (fn.params.toList.all fun t => C.prog.readableRec t && decide (t < C.prog.types.size)) = true) (hres : fn.resultTypes = #[tb]) (htb : C.prog.underlying tb = some .bool) (hvars : s.vars = []) (hvars0 : (s.at F).vars = []) (hvt : s.bare.plain.varTypes C.prog = [])
    (hspec : ∀ ds : List (DataW H), ds.length = fn.params.size → ((s.at F).fn H (ds ++ [])).results = [.lit (.bool true)] ∧ ((s.at F).fn H (ds ++ [])).args = ds ∧ ((s.at F).fn H (ds ++ [])).vars = [])
    (contract : ∀ (W : World) (base : Nat) (args : Array Value) (ds : List (DataW H)) (p : List MemPlace),
      (∀ (j : Nat) t v, fn.params[j]? = some t → args[j]? = some v → Value.okWide C.prog W .any base t v) → DataW.TrodAll enc C.prog W 0 (fun _ => true) true fn.params.toList args.toList ds p →
      (DataW.weightsEach C.prog fn.params.toList ds).all (· ≤ reachBytes) = true → (∀ k, s.cond = some k → k H ds = true) → laidMetH C.prog laid W →
      Calls C.prog f args W fun e W' => e = .returned (.bool true) ∧ Below W.heap.size W W') :
    ReturnsInHanded {} C os f .any (s.preRow enc C.prog fn conds false laid) ((s.at F).post enc C.prog fn false true false false) := by
  refine returnsInHanded_of_row own started noInit hfn witness ?_
  intro W base args ds gs before hval hW _ hkk hsz hL _ _
  have hW' := hW
  obtain ⟨p, q, hA, hV, rfl, _, _⟩ := hW
  rw [hvars] at hV
  obtain ⟨rfl, rfl⟩ := trodVars_none hV
  have hlen : ds.length = fn.params.size := by
    have key : ∀ (ts : List TypeId) (vs : List Value) (ds : List (DataW H)) (p : List MemPlace), DataW.TrodAll enc C.prog W 0 (fun _ => true) true ts vs ds p → ds.length = ts.length := by
      intro ts
      induction ts with
      | nil => intro vs ds p h; obtain ⟨_, rfl, _⟩ := trodAll_nil h; rfl
      | cons t ts ih => intro vs ds p h; obtain ⟨v, vs', d, ds', p, q, rfl, rfl, rfl, _, h2⟩ := trodAll_cons h; simp [ih _ _ _ h2]
    rw [key _ _ _ _ hA]; simp
  have hw : (DataW.weightsEach C.prog fn.params.toList ds).all (· ≤ reachBytes) = true := by
    simpa [hvt] using hsz
  refine (contract W base args ds p hval hA hw (fun k hk => by simpa using hkk k hk) hL).mono fun e W' ⟨he, bel⟩ => ?_
  subst he
  obtain ⟨h1, h2, h3⟩ := hspec ds hlen
  have hr : ∀ t ∈ fn.params.toList, C.prog.readableRec t = true ∧ t < C.prog.types.size := by
    intro t ht
    have := List.all_eq_true.1 hread t ht
    simpa using this
  refine ⟨_, rfl, ds, [], p ++ [], [], p, [], hW', ?_, ?_, ?_, World.keptBut_mono (fun x hx => ⟨hx, ?_⟩) (bel.frame (· ∈ p ++ [])), fun h => by cases h⟩
  · rw [h1, hres]; exact trodAll_mk1 (shut_bool htb _)
  · rw [h2]; exact trodAll_below hl bel hr hA
  · rw [h3, hvars0]; rfl
  · right; left; simpa using hx
end Go.Cf
namespace Go.Proofs.YtijpaljdclhehaaDoor
open Go.ChangeShapes Go.WideShapes Go.ChangeAt Go.RowKit Go.Cf
set_option maxRecDepth 10000
theorem ce_str : Tryd.prog.cellsOf 9 = 1 := by kernel_rfl
theorem ce_ints : Tryd.prog.cellsOf 30 = 1 := by kernel_rfl
theorem by_int : Tryd.prog.bytesOf 3 = 8 := by kernel_rfl
theorem by_rule : Tryd.prog.bytesOf 32 = 40 := by kernel_rfl
theorem el_rule {H : Type} {enc : TypeId × Value → H} {w : World} : ∀ (n : Nat) (cs : List Value) (x : DataW H × List MemPlace), DataW.trod enc Tryd.prog w 0 (fun _ => true) true n 32 cs = some x →
    (x.1.weights Tryd.prog 32).all (· ≤ reachBytes) = true → ∃ a : RuleC, cs = ruleCells a ∧ RuleR w 0 a := by
  intro n cs x h hw
  obtain ⟨m, hlen, hf⟩ := rd_struct Tryd.underlying32 h hw
  have hl : cs.length = 2 := hlen.trans (by kernel_rfl)
  match cs, hl with
  | [c0, c1], _ =>
    obtain ⟨y0, f0, w0⟩ := hf 0 _ rfl
    obtain ⟨y1, f1, w1⟩ := hf 1 _ rfl
    simp [ce_str, ce_ints] at f0 f1
    obtain ⟨a0, e0, _⟩ := el_str Tryd.underlying9 m _ _ f0 w0
    obtain ⟨A1, c1', l1, e1, r1, s1, m1, n1, t1, _⟩ := rd_cells Tryd.underlying30 (by kernel_rfl) (el_int Tryd.underlying3) f1 w1
    simp at e0 e1
    subst e0 e1
    rw [by_int] at t1
    exact ⟨⟨⟨a0, l1⟩, A1, c1'⟩, rfl, ⟨r1, ⟨s1, m1, n1, Nat.le_trans (Nat.mul_le_mul_right _ s1) t1⟩⟩⟩
end Go.Proofs.YtijpaljdclhehaaDoor
namespace Go.Proofs.YtijpaljdclhehaaDoor
open Go.ChangeShapes Go.WideShapes Go.ChangeAt Go.RowKit Go.Cf
set_option maxRecDepth 100000 in
theorem ownersFormatRoundTrip_lifted (os : Os) (started : os.Started) (H : Type) (enc : TypeId × Value → H) (F : Stop.Interp) :
    ReturnsInHanded {} Tryd.checked os 7 .any ((OpenSpec.ofChange Rows.ownersFormatRoundTripSpec).preRow enc Tryd.prog Tryd.f7 Rows.ownersFormatRoundTripRow.domain false Rows.ownersFormatRoundTripRow.laid) (((OpenSpec.ofChange Rows.ownersFormatRoundTripSpec).at F).post enc Tryd.prog Tryd.f7 false true false false) := by
  refine law_lift_row (C := Tryd.checked) (s := OpenSpec.ofChange Rows.ownersFormatRoundTripSpec) (tb := 4) (by kernel_rfl) started (by kernel_rfl) Tryd.func7
    (witness_row_at (enc := enc) (C := Tryd.checked) false ({ (World.holding Tryd.prog os ⟨#[], #[], []⟩) with heap := ((World.holding Tryd.prog os ⟨#[], #[], []⟩).heap.modify 1 fun | .cells _ t fz => .cells (Go.Pinned.utf8FirstZ.map fun n : Nat => Value.int .u8 (n : Int)).toArray t fz | o => o).modify 2 fun | .cells _ t fz => .cells (([128, 191, 160, 191, 128, 159, 144, 191, 128, 143, 0, 0, 0, 0, 0, 0, 0, 0, 0, 0, 0, 0, 0, 0, 0, 0, 0, 0, 0, 0, 0, 0] : List Nat).map fun n : Nat => Value.int .u8 (n : Int)).toArray t fz | o => o } : World) #[.slice none 0 0] rfl (by kernel_rfl) (by kernel_rfl) (by kernel_rfl)
      (OpenSpec.preRow_of_cond 8 (show DataW.whole enc Tryd.prog _ Tryd.f7.params.toList _ false _ 8 = some ([.nil], [], []) by kernel_rfl) (by kernel_rfl) (fun k hk => by cases hk) (by kernel_rfl) (laidMet_of_run' 8 (by kernel_rfl) (by kernel_rfl))))
    (by kernel_rfl) (by kernel_rfl) (by kernel_rfl) Tryd.underlying4 rfl rfl rfl ?_ ?_
  · intro ds hds
    rw [show Tryd.f7.params.size = 1 from by rw [Tryd.params7]; rfl] at hds
    match ds, hds with
    | [d0], _ => exact ⟨rfl, rfl, rfl⟩
  · intro W base args ds p hval hA hw hk hL
    rw [show Tryd.f7.params.toList = [29] from by rw [Tryd.params7]] at hA hw
    rw [Tryd.params7] at hval
    obtain ⟨v0, vs0, d0, ds0, p0, q0, hargs, rfl, rfl, h0, r0⟩ := trodAll_cons hA
    obtain ⟨rfl, rfl, rfl⟩ := trodAll_nil r0
    obtain rfl : args = #[v0] := by cases args; simp_all
    obtain ⟨w0, hw⟩ := weights_each hw
    obtain ⟨A0, c0, l0, rfl, hv0, hlc0, hcm0, hA0, hcb0, hQ0⟩ := rd_slice Tryd.underlying29 (by kernel_rfl) el_rule (hval 0 29 v0 rfl rfl) h0 w0
    have hR0 : RulesR W 0 A0 c0 l0 := ⟨hv0, hQ0, ⟨hlc0, hcm0, hA0, Nat.le_trans (Nat.mul_le_mul_right _ hlc0) (by rw [by_rule] at hcb0; exact hcb0)⟩⟩
    exact law23_any W A0 c0 l0 hR0
theorem ownersFormatRoundTrip_said : Rows.OwnersFormatRoundTripSaid :=
  OpenClaim.holds_of_cond 7 Tryd.f7 rfl rfl rfl rfl rfl rfl rfl ⟨rfl, rfl, rfl, rfl, rfl⟩ rfl rfl rfl rfl rfl (by kernel_rfl) Tryd.func7 (by kernel_rfl)
    (of_decide_eq_true (by kernel_rfl)) (by unfold Func.isWrapper; first | (rw [if_pos (by decide +kernel)]; kernel_rfl) | (rw [if_neg (by decide +kernel)]; exact ⟨rfl, rfl⟩))
    (fun os started H enc _ F => by rw [OpenClaim.pre_eq_preRow]; exact ownersFormatRoundTrip_lifted os started H enc F)
theorem ownersFormatRoundTrip_plain (f : FuncId) (fn : Func) (hf : Tryd.pinned.checked.prog.funcNamed "changeforge/changeforgelaw7.OwnersFormatRoundTrip" = some f) (hfn : Tryd.pinned.checked.prog.funcs[f]? = some fn) :
    false = Tryd.pinned.checked.prog.looks [] ∧ ∀ (j : Nat) t, fn.params[j]? = some t → Tryd.pinned.checked.prog.wantsStandIn t = false := by
  obtain rfl : f = 7 := Option.some.inj ((show Tryd.prog.funcNamed "changeforge/changeforgelaw7.OwnersFormatRoundTrip" = some 7 by kernel_rfl).symm.trans hf) |>.symm
  obtain rfl : fn = Tryd.f7 := (Option.some.inj (Tryd.func7.symm.trans hfn)).symm
  refine ⟨by kernel_rfl, fun j t ht => ?_⟩
  rw [Tryd.params7] at ht
  have hm : t ∈ [29] := by simpa using Array.mem_of_getElem? ht
  have hall : ([29].all fun u => !Tryd.prog.wantsStandIn u) = true := by kernel_rfl
  exact (show Tryd.prog.wantsStandIn t = false by simpa using List.all_eq_true.1 hall t hm)
theorem ownersFormatRoundTrip_holds : Rows.OwnersFormatRoundTripCardSaid :=
  Claim7.holds_tied_plain_at .later [] _ _ _ _ ownersFormatRoundTrip_said (fun _ h => by cases h) (by kernel_rfl) (fun _ h => by cases h) ownersFormatRoundTrip_row_tie rfl ⟨rfl, rfl⟩ (by kernel_rfl) rfl ownersFormatRoundTrip_plain (by kernel_rfl)
end Go.Proofs.YtijpaljdclhehaaDoor
