/-
  OwnersLastMatchWins: for all rules and paths the law returns true (the tied card of the second form: what is read is of bulk at most 1048576).
-/
import Derived.Test.YtijpaljdclhehaaDoorP22c
import Derived.Deep.DeepHandedRow
import Derived.Lib.LaidTab
import Derived.Test.YtijpaljdclhehaaDoorCards
import Derived.Test.YtijpaljdclhehaaDoorProg
import Derived.Test.YtijpaljdclhehaaDoorRows
import Derived.Test.YtijpaljdclhehaaDoorTie
namespace Go.Proofs.YtijpaljdclhehaaDoor
open Go.RowKit Go.Cf
set_option maxRecDepth 10000
theorem el32 : Elem Tryd.prog 32 2 40 := elem_of (z := .agg #[.string .empty, .slice none 0 0]) (by kernel_rfl) rfl (by decide)
set_option maxHeartbeats 2000000 in
theorem parseFile_any (w : World) (A : Option Addr) (c : Nat) (text : List ByteArray) (ht : Rdl w 0 1 strCells A text) (hm : text.length ≤ maxLen) :
    Calls Tryd.prog 22 #[.slice A text.length c] w fun e w' => ∃ v T' rs' fr, e = .returned (.tuple #[v, fv (fileF text)]) ∧ T' = [rowl ruleCells w.heap.size 32 2 (v) (rs'), fr] ∧ rls rs' = fileV text ∧ (∀ w1, fr.ok w1 → ∀ a ∈ rs', RuleR w1 w.heap.size a) ∧ Mem w T' w' := by
  refine gcalls Tryd.func22 rfl Tryd.ntmps22 (Nat.le_of_ble_eq_true rfl) ?_
  refine gfrom [(0, .slice _ _ _)] ⟨rfl, trivial⟩ fun σ => ?_
  refine gseq fun N1 hN1 => ?_
  refine greg ?_
  refine gop (y_assign (v := .slice _ _ _) rfl) rfl rfl rfl ?_
  refine gop_alloc (cs := #[.int .i64 0, .int .i64 0]) Tryd.zeroValue23 rfl rfl (fun b3 hb3 => ?_)
  refine gops_nil ?_
  refine hN1 _ _ ?_
  refine gT [box b3 _] rfl ?_
  refine gfrom [(0, .slice _ _ _), (3, .pointer _)] ⟨rfl, rfl, trivial⟩ fun σ => ?_
  refine gseq fun N2 hN2 => ?_
  refine gseq fun N3 hN3 => ?_
  refine greg ?_
  refine gop (y_move (v := .slice _ _ _) rfl) rfl rfl rfl ?_
  refine gop_pure (e_call (vs := [.slice _ _ _]) Tryd.func29 rfl (by kernel_rfl) rfl) (fun w hM => linesValidate_any w A c text (ht.base hM) hm) rfl rfl rfl ?_
  refine gop_alloc (cs := #[.int .i64 0, .int .i64 0]) Tryd.zeroValue23 rfl rfl (fun b4 hb4 => ?_)
  refine gop_store 1 (v := .agg #[_, _]) (cs' := #[_, _]) rfl rfl Tryd.sizeOf23 rfl rfl rfl rfl (Nat.le_of_ble_eq_true rfl) rfl rfl ?_
  refine gops_nil ?_
  refine hN3 _ _ ?_
  refine gT [box b3 _, box b4 _] rfl ?_
  refine gfrom [(0, .slice _ _ _), (3, .pointer _), (4, .pointer _)] ⟨rfl, rfl, rfl, trivial⟩ fun σ => ?_
  refine gseq fun N4 hN4 => ?_
  refine greg ?_
  refine gop (y_loads (cs := [_, _]) Tryd.isAgg23 Tryd.sizeOf23 rfl rfl (cells_box 1 rfl)) rfl rfl rfl ?_
  refine gop (y_build (vs := []) (cells := #[.int .i64 0, .int .i64 0]) rfl bd23_) rfl rfl rfl ?_
  refine gop (y_bin (vx := .agg #[_, _]) (vy := .agg #[_, _]) rfl rfl (fun w => eg23 _ _ _ _ _ w) (fun w => ne23 _ _ _ _ w)) rfl rfl rfl ?_
  refine gops_nil ?_
  refine hN4 _ _ ?_
  refine gfrom [(0, .slice _ _ _), (3, .pointer _), (4, .pointer _), (14, .bool _)] ⟨rfl, rfl, rfl, rfl, trivial⟩ fun σ => ?_
  refine gcond (b := _) rfl (fun hc14 => ?_) (fun hc14 => ?_)
  · 
    replace hc14 := fault_ne.1 hc14
    have hFF : fileF text = linesF text := by rw [fileF, if_pos hc14]
    refine gseq fun N5 hN5 => ?_
    refine greg_e1 [] [(0, room b3 23 2)] (by kernel_rfl) ?_
    refine ge_take 0 (TK := [room b3 23 2, box b4 _]) rfl (by kernel_rfl) (by kernel_rfl) (by kernel_rfl) #[false, true, false] (by kernel_rfl) rfl (y_loads (cs := [_, _]) Tryd.isAgg23 Tryd.sizeOf23 rfl rfl (cells_box 1 rfl)) rfl rfl rfl (weak_room 0 rfl rfl) (listed' := #[true, false, false]) rfl ?_
    refine ge_take 1 (TK := [room b3 23 2, box b4 _]) rfl (by kernel_rfl) (by kernel_rfl) (by kernel_rfl) #[true, false, false] (by kernel_rfl) rfl (y_assign (v := .slice _ _ _) rfl) rfl rfl rfl (weak_room 0 rfl rfl) (listed' := #[true, true, false]) rfl ?_
    refine ge_one 2 (k' := 0) (listed' := #[true, true, true]) (by kernel_rfl) rfl rfl rfl ?_
    refine gop_store 0 (v := .agg #[_, _]) (cs' := #[_, _]) rfl rfl Tryd.sizeOf23 rfl rfl rfl rfl (Nat.le_of_ble_eq_true rfl) rfl rfl ?_
    refine gops_nil ?_
    refine ge_fin (TK := [room b3 23 2, box b4 _]) rfl (weak_room 0 rfl rfl) ?_
    refine ge_done (by kernel_rfl) ?_
    refine hN5 _ _ ?_
    refine gT [box b3 _, box b4 _] rfl ?_
    refine gfrom [(2, .slice _ _ _), (3, .pointer _)] ⟨rfl, rfl, trivial⟩ fun σ => ?_
    refine gret fun w1 hM => ?_
    refine ⟨_, res2 rfl (rt (v := .slice _ _ _) rfl) (rc 0 (cs := [_, _]) hM rfl rfl Tryd.isAgg23 Tryd.sizeOf23 rfl), ?_⟩
    exact ⟨_, _, [], emp, by rw [hFF], rfl, by rw [fileV, if_neg (by rw [hFF]; exact hc14)]; rfl, fun _ _ _ h => (by cases h), (mem_nilrow ruleCells 32 2 hM).emp.dropTo 2 rfl⟩
  · 
    replace hc14 := fault_eq.1 hc14
    have hls := line_size hc14
    refine gskip ?_
    refine hN2 _ _ ?_
    refine gfrom [(0, .slice _ _ _), (3, .pointer _)] ⟨rfl, rfl, trivial⟩ fun σ => ?_
    refine gseq fun N6 hN6 => ?_
    refine greg ?_
    refine gop (y_assign (v := .slice _ _ _) rfl) rfl rfl rfl ?_
    refine gops_nil ?_
    refine hN6 _ _ ?_
    refine gfrom [(0, .slice _ _ _), (3, .pointer _), (5, .slice _ _ _)] ⟨rfl, rfl, rfl, trivial⟩ fun σ => ?_
    refine gseq fun N7 hN7 => ?_
    refine gseq fun N8 hN8 => ?_
    refine greg ?_
    refine gop (y_move (v := .slice _ _ _) rfl) rfl rfl rfl ?_
    refine gop (y_len Tryd.underlying37 rfl) rfl rfl rfl ?_
    refine gop (y_move (v := .int _ _) rfl) rfl rfl rfl ?_
    refine gops_nil ?_
    refine hN8 _ _ ?_
    refine gfrom [(3, .pointer _), (5, .slice _ _ _), (16, .slice _ _ _), (17, .int _ _), (18, .int _ _)] ⟨rfl, rfl, rfl, rfl, rfl, trivial⟩ fun σ => ?_
    refine gblock ?_
    refine gnilrow ruleCells 32 2 ?_
    refine g_emp ?_
    refine gfrom2 [(5, .slice _ _ _), (18, .int _ _)] [(3, .pointer _), (16, .slice _ _ _), (17, .int _ _)] ⟨rfl, rfl, trivial⟩ ⟨rfl, rfl, rfl, trivial⟩ fun σ => ?_
    refine gloop2 (G := Nat × Option Addr × Nat × List RuleC × Reg) (fun (k, Av, cv, rn, fr) => k ≤ text.length ∧ rls rn = readL (text.take k) ∧ (∀ j (h : j < text.length), j < k → badL text[j] = 0) ∧ ∀ w1, fr.ok w1 → ∀ a ∈ rn, RuleR w1 w.heap.size a) (fun (k, Av, cv, rn, fr) => text.length - k) (fun (k, Av, cv, rn, fr) => [(5, .slice Av rn.length cv), (18, .int .i64 (k : Int))]) (fun (k, Av, cv, rn, fr) => [(2, rowl ruleCells w.heap.size 32 2 (.slice Av rn.length cv) (rn)), (3, fr)]) ((0, none, 0, [], emp)) ?h0 ⟨rfl, rfl, trivial⟩ ⟨rfl, rfl, rfl, trivial⟩ rfl ?round
    case h0 => exact ⟨Nat.zero_le _, rfl, fun _ _ h => absurd h (by omega), fun _ _ _ h => (by cases h)⟩
    case round =>
      rintro ⟨k, Av, cv, rn, fr⟩ hφ σ
      obtain ⟨hk, hrl, hz, hfr⟩ := hφ
      have hrnl : rn.length ≤ k := by have h8 := congrArg List.length hrl; have h9 := readL_len (text.take k); simp at h8 h9; omega
      refine gT [box b3 _, box b4 _, rowl _ _ _ _ _ _, fr] rfl ?_
      refine gseq fun N9 hN9 => ?_
      refine greg ?_
      refine gop (y_lss rfl rfl) rfl rfl rfl ?_
      refine gops_nil ?_
      refine hN9 _ _ ?_
      refine gfrom [(3, .pointer _), (5, .slice Av _ cv), (16, .slice _ _ _), (17, .int _ _), (18, .int _ _), (19, .bool _)] ⟨rfl, rfl, rfl, rfl, rfl, rfl, trivial⟩ fun σ => ?_
      refine gseq fun N10 hN10 => ?_
      refine gcond (b := _) rfl (fun hc19 => ?_) (fun hc19 => ?_)
      · 
        replace hc19 := of_decide_eq_true hc19
        have hk1 : k < text.length := by omega
        obtain ⟨ad, rfl, -, hca⟩ := ht.at_ hk1
        refine gskip ?_
        refine hN10 _ _ ?_
        refine gfrom [(3, .pointer _), (5, .slice Av _ cv), (16, .slice _ _ _), (17, .int _ _), (18, .int _ _)] ⟨rfl, rfl, rfl, rfl, rfl, trivial⟩ fun σ => ?_
        refine gseq fun N11 hN11 => ?_
        refine gblock ?_
        refine gseq fun N12 hN12 => ?_
        refine greg ?_
        refine gop (y_move (v := .int _ _) rfl) rfl rfl rfl ?_
        refine gop (y_indexAddr (m := k) Tryd.underlying37 Tryd.sizeOf9 rfl rfl (by omega) (by omega) (by omega)) rfl rfl rfl ?_
        refine gop (y_load Tryd.isAgg9 rfl (cell_base (hca 0 _ rfl))) rfl rfl rfl ?_
        refine gop (y_assign (v := .int _ _) rfl) rfl rfl rfl ?_
        refine gop (y_assign (v := .string _) rfl) rfl rfl rfl ?_
        refine gops_nil ?_
        refine hN12 _ _ ?_
        refine gfrom [(3, .pointer _), (5, .slice Av _ cv), (6, .int _ _), (7, .string _), (16, .slice _ _ _), (17, .int _ _), (18, .int _ _)] ⟨rfl, rfl, rfl, rfl, rfl, rfl, rfl, trivial⟩ fun σ => ?_
        refine gseq fun N13 hN13 => ?_
        refine gseq fun N14 hN14 => ?_
        refine greg ?_
        refine gop (y_move (v := .string _) rfl) rfl rfl rfl ?_
        refine gop (y_eqls rfl rfl) rfl rfl rfl ?_
        refine gop (y_move (v := .bool _) rfl) rfl rfl rfl ?_
        refine gop_if (want := false) rfl rfl rfl rfl rfl rfl (fun hg25 => ?_) (fun hg25 => ?_)
        · 
          have hg25d := hg25
          have hsz : 0 < text[k].size := str_pos hg25d
          refine gop (y_bare (y_move (v := .string _) rfl)) rfl rfl rfl ?_
          refine gop_on rfl rfl rfl rfl hg25 ?_
          refine gop (y_bare (y_stridx (m := 0) Tryd.underlying9 rfl rfl (by omega) (by omega) (by omega))) rfl rfl rfl ?_
          refine gop_on rfl rfl rfl rfl hg25 ?_
          refine gop (y_bare (y_eql rfl rfl)) rfl rfl rfl ?_
          refine gop (y_pick_f (v := .bool _) rfl hg25 rfl) rfl rfl rfl ?_
          refine gops_nil ?_
          refine hN14 _ _ ?_
          refine gfrom [(3, .pointer _), (5, .slice Av _ cv), (6, .int _ _), (7, .string _), (16, .slice _ _ _), (17, .int _ _), (18, .int _ _), (29, .bool _)] ⟨rfl, rfl, rfl, rfl, rfl, rfl, rfl, rfl, trivial⟩ fun σ => ?_
          refine gcond (b := _) rfl (fun hc29 => ?_) (fun hc29 => ?_)
          · 
            replace hc29 := of_decide_eq_true hc29
            have hsk : skipL text[k] = true := by first | (unfold skipL; rw [show strEq text[k] ⟨#[]⟩ = true from hg25d]; rfl) | (unfold skipL; rw [decide_eq_true (show byteAt text[k] 0 = 35 by omega)]; simp)
            refine gexit ?_
            refine hN11 _ _ ?_
            refine gfrom [(3, .pointer _), (5, .slice Av _ cv), (16, .slice _ _ _), (17, .int _ _), (18, .int _ _)] ⟨rfl, rfl, rfl, rfl, rfl, trivial⟩ fun σ => ?_
            refine greg ?_
            refine gop (y_add rfl rfl ⟨by omega, by omega⟩) rfl rfl rfl ?_
            refine gop (y_move (v := .int _ _) rfl) rfl rfl rfl ?_
            refine gops_nil ?_
            refine gnext2 ((k + 1, Av, cv, rn, fr)) (by show text.length - (k + 1) < text.length - k; omega) (⟨by show k + 1 ≤ _; omega, by rw [readL_take hk1, hsk]; simpa using hrl, fun j h hj => by rcases Nat.lt_succ_iff_lt_or_eq.1 hj with h1 | rfl; exact hz j h h1; rw [badL, if_pos hsk], hfr⟩) ⟨rfl, rfl, trivial⟩ ⟨rfl, rfl, rfl, trivial⟩ ⟨_, rfl⟩
            skip
          · 
            replace hc29 := of_decide_eq_false hc29
            have hsk : skipL text[k] = false := by unfold skipL; rw [show strEq text[k] ⟨#[]⟩ = false from hg25d, decide_eq_false (show ¬ byteAt text[k] 0 = 35 by omega)]; rfl
            have hbd : badL text[k] = lineC text[k] := by rw [badL, hsk]; rfl
            refine gskip ?_
            refine hN13 _ _ ?_
            refine gfrom [(3, .pointer _), (5, .slice Av _ cv), (6, .int _ _), (7, .string _), (16, .slice _ _ _), (17, .int _ _), (18, .int _ _)] ⟨rfl, rfl, rfl, rfl, rfl, rfl, rfl, trivial⟩ fun σ => ?_
            refine gseq fun N15 hN15 => ?_
            refine greg ?_
            refine gop (y_move (v := .string _) rfl) rfl rfl rfl ?_
            refine gop_got (fun v T' => ∃ A1 c1 lo, w.heap.size ≤ lo ∧ v = .tuple #[.agg #[.string (lineR text[k]).pat, .slice A1 (lineR text[k]).users.length c1], .int .i64 (lineC text[k])] ∧ T' = [rowl intCells lo 3 1 (.slice A1 (lineR text[k]).users.length c1) ((lineR text[k]).users)]) (e_call (vs := [.string _]) Tryd.func50 rfl (by kernel_rfl) rfl) (fun w hM => (parse_any w text[k] (by have h9 := (hls.2 k hk1).2; omega)).mono fun _ _ ⟨A1, c1, T1, h1, h2, h3⟩ => ⟨_, T1, h1, ⟨A1, c1, _, hM.low.size, rfl, h2⟩, h3⟩) rfl rfl rfl ?_
            rintro _ _ ⟨A32, c32, lo32, hlo32, rfl, rfl⟩
            refine gops_mem _ (weak_lower 4 rfl hlo32) ?_
            refine gop (y_move (v := .tuple #[.agg #[_, _], .int _ _]) rfl) rfl rfl rfl ?_
            refine gop (y_extract (v := .agg #[_, _]) rfl rfl) rfl rfl rfl ?_
            refine gop (y_extract (v := .int _ _) rfl rfl) rfl rfl rfl ?_
            refine gop_alloc (cs := #[.string .empty, .slice none 0 0]) Tryd.zeroValue32 rfl rfl (fun b8 hb8 => ?_)
            refine gop_store 5 (v := .agg #[_, _]) (cs' := #[_, _]) rfl rfl Tryd.sizeOf32 rfl rfl rfl rfl (Nat.le_of_ble_eq_true rfl) rfl rfl ?_
            refine gop (y_assign (v := .int _ _) rfl) rfl rfl rfl ?_
            refine gops_nil ?_
            refine hN15 _ _ ?_
            refine gT [box b3 _, box b4 _, rowl _ _ _ _ _ _, fr, rowl _ _ _ _ _ _, box b8 _] rfl ?_
            refine gfrom [(3, .pointer _), (5, .slice Av _ cv), (6, .int _ _), (8, .pointer _), (9, .int _ _), (16, .slice _ _ _), (17, .int _ _), (18, .int _ _)] ⟨rfl, rfl, rfl, rfl, rfl, rfl, rfl, rfl, trivial⟩ fun σ => ?_
            refine gseq fun N16 hN16 => ?_
            refine gseq fun N17 hN17 => ?_
            refine greg ?_
            refine gop (y_move (v := .int _ _) rfl) rfl rfl rfl ?_
            refine gop (y_neq rfl rfl) rfl rfl rfl ?_
            refine gops_nil ?_
            refine hN17 _ _ ?_
            refine gfrom [(3, .pointer _), (5, .slice Av _ cv), (6, .int _ _), (8, .pointer _), (9, .int _ _), (16, .slice _ _ _), (17, .int _ _), (18, .int _ _), (36, .bool _)] ⟨rfl, rfl, rfl, rfl, rfl, rfl, rfl, rfl, rfl, trivial⟩ fun σ => ?_
            refine gcond (b := _) rfl (fun hc36 => ?_) (fun hc36 => ?_)
            · 
              replace hc36 := of_decide_eq_true hc36
              have hsc := scan_at (f := fun _ s => badL s) hk1 hz (by rw [hbd]; exact hc36)
              have hFF : fileF text = ⟨lineC text[k], k⟩ := by rw [fileF, if_neg (fun h => h hc14), hsc, hbd, if_pos (fun h => hc36 (congrArg Fault.code h))]
              refine gseq fun N18 hN18 => ?_
              refine greg ?_
              refine gop (y_move (v := .int _ _) rfl) rfl rfl rfl ?_
              refine gop (y_move (v := .int _ _) rfl) rfl rfl rfl ?_
              refine gop (y_build (vs := [(0, .int _ _), (1, .int _ _)]) (cells := #[_, _]) rfl (bd23_0_1 _ _)) rfl rfl rfl ?_
              refine gop (y_assign (v := .slice _ _ _) rfl) rfl rfl rfl ?_
              refine gop_store 0 (v := .agg #[_, _]) (cs' := #[_, _]) rfl rfl Tryd.sizeOf23 rfl rfl rfl rfl (Nat.le_of_ble_eq_true rfl) rfl rfl ?_
              refine gops_nil ?_
              refine hN18 _ _ ?_
              refine gT [box b3 _, box b4 _, rowl _ _ _ _ _ _, fr, rowl _ _ _ _ _ _, box b8 _] rfl ?_
              refine gfrom [(2, .slice _ _ _), (3, .pointer _)] ⟨rfl, rfl, trivial⟩ fun σ => ?_
              refine gret fun w1 hM => ?_
              refine ⟨_, res2 rfl (rt (v := .slice _ _ _) rfl) (rc 0 (cs := [_, _]) hM rfl rfl Tryd.isAgg23 Tryd.sizeOf23 rfl), ?_⟩
              exact ⟨_, _, [], emp, by rw [hFF], rfl, by rw [fileV, if_neg (by rw [hFF]; exact fun h => hc36 (congrArg Fault.code h))]; rfl, fun _ _ _ h => (by cases h), (mem_nilrow ruleCells 32 2 hM).emp.dropTo 6 rfl⟩
            · 
              replace hc36 := Decidable.not_not.1 (of_decide_eq_false hc36)
              refine gskip ?_
              refine hN16 _ _ ?_
              refine gfrom [(3, .pointer _), (5, .slice Av _ cv), (8, .pointer _), (16, .slice _ _ _), (17, .int _ _), (18, .int _ _)] ⟨rfl, rfl, rfl, rfl, rfl, rfl, trivial⟩ fun σ => ?_
              refine greg ?_
              refine gop (y_move (v := .slice Av _ cv) rfl) rfl rfl rfl ?_
              refine gop (y_loads (cs := [_, _]) Tryd.isAgg32 Tryd.sizeOf32 rfl rfl (cells_box 5 rfl)) rfl rfl rfl ?_
              refine gop_lit (vs := [.agg #[_, _]]) (cells := #[_, _]) Tryd.underlying29 Tryd.sizeOf32 Tryd.zeroValue32 rfl (by decide) (by decide) rfl rfl rfl rfl (fun b42 hb42 => ?_)
              refine gop_append 2 (f := ruleCells) (l2 := [⟨lineR text[k], A32, c32⟩]) Tryd.underlying29 el32 wide_rule (v := .slice Av _ cv) rfl rfl rfl rfl (fun h => by cases h) (by simp [maxLen]; omega) (by simp; omega) (src_box 6 rfl rfl) rfl (fun v43 => ?_)
              refine gops_fact (fun w hM => own_form (hM.own 2 rfl)) ?_
              rintro ⟨A43, c43, rfl, hc43, hm43⟩
              refine gop (y_assign (v := .slice A43 _ c43) rfl) rfl rfl rfl ?_
              refine gops_nil ?_
              refine hN11 _ _ ?_
              refine gT [box b3 _, box b4 _, rowl _ _ _ _ _ _, fr, rowl _ _ _ _ _ _, box b8 _, box b42 _] rfl ?_
              refine gfrom [(3, .pointer _), (5, .slice A43 _ c43), (16, .slice _ _ _), (17, .int _ _), (18, .int _ _)] ⟨rfl, rfl, rfl, rfl, rfl, trivial⟩ fun σ => ?_
              refine greg ?_
              refine gop (y_add rfl rfl ⟨by omega, by omega⟩) rfl rfl rfl ?_
              refine gop (y_move (v := .int _ _) rfl) rfl rfl rfl ?_
              refine gops_nil ?_
              refine fin_mem _ (weak_all 4 3 rfl) ?_
              refine gnext2 ((k + 1, A43, c43, rn ++ [⟨lineR text[k], A32, c32⟩], both fr (all_ [_, _, _]))) (by show text.length - (k + 1) < text.length - k; omega) (⟨by show k + 1 ≤ _; omega, by rw [readL_take hk1, hsk]; show List.map _ _ = _; rw [List.map_append]; show rls rn ++ _ = _; rw [hrl]; rfl, fun j h hj => by rcases Nat.lt_succ_iff_lt_or_eq.1 hj with h1 | rfl; exact hz j h h1; rw [hbd]; exact hc36, fun w1 ho a ha => ?hr⟩) ⟨rfl, rfl, trivial⟩ ⟨rfl, rfl, rfl, trivial⟩ ⟨_, rfl⟩
              case hr =>
                rcases List.mem_append.1 ha with ha | ha
                · exact hfr w1 ho.1 a ha
                · obtain rfl := List.mem_singleton.1 ha
                  exact ruleR_row (ho.2.1) (Nat.le_trans (show (lineR text[k]).users.length * 8 ≤ 40000000 by have h9 := lineR_len text[k]; have h8 := (hls.2 k hk1).2; omega) (by decide))
        · 
          have hg25d := hg25
          refine gop_off rfl rfl rfl rfl hg25 rfl rfl ?_
          refine gop_off rfl rfl rfl rfl hg25 rfl rfl ?_
          refine gop (y_pick_t (v := .bool _) rfl hg25 rfl) rfl rfl rfl ?_
          refine gops_nil ?_
          refine hN14 _ _ ?_
          refine gfrom [(3, .pointer _), (5, .slice Av _ cv), (6, .int _ _), (7, .string _), (16, .slice _ _ _), (17, .int _ _), (18, .int _ _), (29, .bool _)] ⟨rfl, rfl, rfl, rfl, rfl, rfl, rfl, rfl, trivial⟩ fun σ => ?_
          refine gcond (b := _) rfl (fun hc29 => ?_) (fun hc29 => ?_)
          · 
            have hsk : skipL text[k] = true := by first | (unfold skipL; rw [show strEq text[k] ⟨#[]⟩ = true from hg25d]; rfl) | (unfold skipL; rw [decide_eq_true (show byteAt text[k] 0 = 35 by omega)]; simp)
            refine gexit ?_
            refine hN11 _ _ ?_
            refine gfrom [(3, .pointer _), (5, .slice Av _ cv), (16, .slice _ _ _), (17, .int _ _), (18, .int _ _)] ⟨rfl, rfl, rfl, rfl, rfl, trivial⟩ fun σ => ?_
            refine greg ?_
            refine gop (y_add rfl rfl ⟨by omega, by omega⟩) rfl rfl rfl ?_
            refine gop (y_move (v := .int _ _) rfl) rfl rfl rfl ?_
            refine gops_nil ?_
            refine gnext2 ((k + 1, Av, cv, rn, fr)) (by show text.length - (k + 1) < text.length - k; omega) (⟨by show k + 1 ≤ _; omega, by rw [readL_take hk1, hsk]; simpa using hrl, fun j h hj => by rcases Nat.lt_succ_iff_lt_or_eq.1 hj with h1 | rfl; exact hz j h h1; rw [badL, if_pos hsk], hfr⟩) ⟨rfl, rfl, trivial⟩ ⟨rfl, rfl, rfl, trivial⟩ ⟨_, rfl⟩
            skip
          · 
            cases hc29
      · 
        replace hc19 := of_decide_eq_false hc19
        have hsc : scan (fun _ s => badL s) text = ⟨0, 0⟩ := scan_ok fun j hj => hz j hj (by omega)
        have hrn : rls rn = readL text := by rw [hrl, List.take_of_length_le (by omega)]
        refine gexit ?_
        refine hN7 _ _ ?_
        refine gfrom [(3, .pointer _), (5, .slice Av _ cv)] ⟨rfl, rfl, trivial⟩ fun σ => ?_
        refine gseq fun N19 hN19 => ?_
        refine gseq fun N20 hN20 => ?_
        refine greg ?_
        refine gop (y_move (v := .slice Av _ cv) rfl) rfl rfl rfl ?_
        refine gop (y_len Tryd.underlying29 rfl) rfl rfl rfl ?_
        refine gop (y_gtr rfl rfl) rfl rfl rfl ?_
        refine gops_nil ?_
        refine hN20 _ _ ?_
        refine gfrom [(3, .pointer _), (5, .slice Av _ cv), (47, .bool _)] ⟨rfl, rfl, rfl, trivial⟩ fun σ => ?_
        refine gcond (b := _) rfl (fun hc47 => ?_) (fun hc47 => ?_)
        · 
          replace hc47 := of_decide_eq_true hc47
          refine gseq fun N21 hN21 => ?_
          refine greg ?_
          refine gop (y_build (vs := [(0, _), (1, _)]) (cells := #[_, _]) rfl (bd23_0_1 _ _)) rfl rfl rfl ?_
          refine gop (y_assign (v := .slice _ _ _) rfl) rfl rfl rfl ?_
          refine gop_store 0 (v := .agg #[_, _]) (cs' := #[_, _]) rfl rfl Tryd.sizeOf23 rfl rfl rfl rfl (Nat.le_of_ble_eq_true rfl) rfl rfl ?_
          refine gops_nil ?_
          refine hN21 _ _ ?_
          refine gT [box b3 _, box b4 _, rowl _ _ _ _ _ _, fr] rfl ?_
          refine gfrom [(2, .slice _ _ _), (3, .pointer _)] ⟨rfl, rfl, trivial⟩ fun σ => ?_
          refine gret fun w1 hM => ?_
          refine ⟨_, res2 rfl (rt (v := .slice _ _ _) rfl) (rc 0 (cs := [_, _]) hM rfl rfl Tryd.isAgg23 Tryd.sizeOf23 rfl), ?_⟩
          have hFF : fileF text = ⟨2, -1⟩ := by rw [fileF, if_neg (fun h => h hc14), hsc, if_neg (fun h => h rfl), ← hrn, if_pos (by simp; omega)]
          exact ⟨_, _, [], emp, by rw [hFF], rfl, by rw [fileV, if_neg (by rw [hFF]; decide)]; rfl, fun _ _ _ h => (by cases h), (mem_nilrow ruleCells 32 2 hM).emp.dropTo 4 rfl⟩
        · 
          replace hc47 := of_decide_eq_false hc47
          refine gskip ?_
          refine hN19 _ _ ?_
          refine gfrom [(3, .pointer _), (5, .slice Av _ cv)] ⟨rfl, rfl, trivial⟩ fun σ => ?_
          refine gseq fun N22 hN22 => ?_
          refine greg ?_
          refine gop (y_move (v := .slice Av _ cv) rfl) rfl rfl rfl ?_
          refine gop (y_build (vs := []) (cells := #[.int .i64 0, .int .i64 0]) rfl bd23_) rfl rfl rfl ?_
          refine gop (y_assign (v := .slice Av _ cv) rfl) rfl rfl rfl ?_
          refine gop_store 0 (v := .agg #[_, _]) (cs' := #[_, _]) rfl rfl Tryd.sizeOf23 rfl rfl rfl rfl (Nat.le_of_ble_eq_true rfl) rfl rfl ?_
          refine gops_nil ?_
          refine hN22 _ _ ?_
          refine gT [box b3 _, box b4 _, rowl _ _ _ _ _ _, fr] rfl ?_
          refine gfrom [(2, .slice Av _ cv), (3, .pointer _)] ⟨rfl, rfl, trivial⟩ fun σ => ?_
          refine gret fun w1 hM => ?_
          refine ⟨_, res2 rfl (rt (v := .slice Av _ cv) rfl) (rc 0 (cs := [_, _]) hM rfl rfl Tryd.isAgg23 Tryd.sizeOf23 rfl), ?_⟩
          have hFF : fileF text = ⟨0, 0⟩ := by rw [fileF, if_neg (fun h => h hc14), hsc, if_neg (fun h => h rfl), ← hrn, if_neg (by simp; omega)]
          exact ⟨_, _, rn, fr, by rw [hFF], rfl, by rw [fileV, if_pos hFF, hrn], hfr, hM.dropTo 2 rfl⟩
end Go.Proofs.YtijpaljdclhehaaDoor
namespace Go.Proofs.YtijpaljdclhehaaDoor
open Go.RowKit Go.Cf
set_option maxRecDepth 10000
set_option maxHeartbeats 2000000 in
theorem ownersExample_any (w : World) : Calls Tryd.prog 19 #[] w fun e w' => e = .returned (.bool true) ∧ Below w.heap.size w w' := by
  refine gcalls Tryd.func19 rfl Tryd.ntmps19 (Nat.le_of_ble_eq_true rfl) ?_
  refine gfrom [] trivial fun σ => ?_
  refine gseq fun N1 hN1 => ?_
  refine greg ?_
  refine gop (y_assign (v := .bool _) rfl) rfl rfl rfl ?_
  refine gops_nil ?_
  refine hN1 _ _ ?_
  refine gfrom [] trivial fun σ => ?_
  refine gseq fun N2 hN2 => ?_
  refine greg ?_
  refine gop_lit (vs := [.string _, .string _, .string _]) (cells := #[_, _, _]) Tryd.underlying37 Tryd.sizeOf9 Tryd.zeroValue9 rfl (by decide) (by decide) rfl rfl rfl rfl (fun b6 hb6 => ?_)
  refine gop_got (fun v T' => ∃ v1 rs' fr lo, w.heap.size ≤ lo ∧ v = .tuple #[v1, fv ⟨0, 0⟩] ∧ T' = [rowl ruleCells lo 32 2 (v1) (rs'), fr] ∧ rls rs' = fileV exT ∧ ∀ w1, fr.ok w1 → ∀ a ∈ rs', RuleR w1 0 a) (e_call (vs := [.slice (some _) _ _]) Tryd.func22 rfl (by kernel_rfl) rfl) (fun w hM => by have hc := parseFile_any w (some ⟨b6, 0, none⟩) 3 exT ((Rdl.of_box 0 (f := strCells) (fun _ => rfl) hM rfl rfl).mono (Nat.zero_le _)) (by decide); rw [oex1] at hc; exact hc.mono fun _ _ ⟨v, T1, rs', fr, h1, h2, h3, h4, h5⟩ => ⟨_, T1, h1, ⟨v, rs', fr, _, hM.low.size, rfl, h2, h3, fun w1 ho a ha => (h4 w1 ho a ha).mono (Nat.zero_le _)⟩, h5⟩) rfl rfl rfl ?_
  rintro _ _ ⟨v7, rs7, fr7, lo7, hlo7, rfl, rfl, hrs7, hfr7⟩
  have hl7 : rs7.length = 2 := by have h8 := congrArg List.length hrs7; rw [oex2] at h8; simpa using h8
  refine gops_fact (fun w hM => row_form (hM.ok _ (List.mem_of_getElem? (i := 1) rfl))) ?_
  rintro ⟨A7, c7, rfl, hc7, hm7, hn7⟩
  refine gop (y_move (v := .tuple #[.slice A7 _ c7, .agg #[_, _]]) rfl) rfl rfl rfl ?_
  refine gop (y_extract (v := .slice _ _ _) rfl rfl) rfl rfl rfl ?_
  refine gop (y_extract (v := .agg #[_, _]) rfl rfl) rfl rfl rfl ?_
  refine gop_alloc (cs := #[.int .i64 0, .int .i64 0]) Tryd.zeroValue23 rfl rfl (fun b2 hb2 => ?_)
  refine gop (y_assign (v := .slice _ _ _) rfl) rfl rfl rfl ?_
  refine gop_store 3 (v := .agg #[_, _]) (cs' := #[_, _]) rfl rfl Tryd.sizeOf23 rfl rfl rfl rfl (Nat.le_of_ble_eq_true rfl) rfl rfl ?_
  refine gops_nil ?_
  refine hN2 _ _ ?_
  refine gT [box b6 _, rowl _ _ _ _ _ _, fr7, box b2 _] rfl ?_
  refine gfrom [(1, .slice _ _ _), (2, .pointer _)] ⟨rfl, rfl, trivial⟩ fun σ => ?_
  refine gseq fun N3 hN3 => ?_
  refine greg ?_
  refine gop (y_move (v := .slice _ _ _) rfl) rfl rfl rfl ?_
  refine gop_got (fun v T' => ∃ v1 lo, w.heap.size ≤ lo ∧ v = .tuple #[v1, fv (⟨0, 0⟩)] ∧ T' = [rowl intCells lo 3 1 (v1) ([1, 3])]) (e_call (vs := [.slice _ _ _, _]) Tryd.func18 rfl (by kernel_rfl) rfl) (fun w hM => by have hc := of_any w A7 c7 (rs7) ⟨(row_rdl (f := ruleCells) (fun _ => rfl) (hM.ok _ (List.mem_of_getElem? (i := 1) rfl))).mono (Nat.zero_le _), hfr7 w (hM.ok _ (List.mem_of_getElem? (i := 2) rfl)), ⟨hc7, hm7, hn7, Nat.le_trans (show rs7.length * 40 ≤ 80 by omega) (by decide)⟩⟩ exPa; rw [hrs7, oex3, oex4] at hc; exact hc.mono fun _ _ ⟨v, T1, h1, h2, h3⟩ => ⟨_, T1, h1, ⟨v, _, hM.low.size, rfl, h2⟩, h3⟩) rfl rfl rfl ?_
  rintro _ _ ⟨v12, lo12, hlo12, rfl, rfl⟩
  refine gops_fact (fun w hM => row_form (hM.ok _ (List.mem_of_getElem? (i := 4) rfl))) ?_
  rintro ⟨A12, c12, rfl, hc12, hm12, hn12⟩
  refine gops_mem _ (weak_lower 4 rfl hlo12) ?_
  refine gop (y_move (v := .tuple #[.slice A12 _ c12, .agg #[_, _]]) rfl) rfl rfl rfl ?_
  refine gop (y_extract (v := .slice _ _ _) rfl rfl) rfl rfl rfl ?_
  refine gop (y_extract (v := .agg #[_, _]) rfl rfl) rfl rfl rfl ?_
  refine gop_alloc (cs := #[.int .i64 0, .int .i64 0]) Tryd.zeroValue23 rfl rfl (fun b4 hb4 => ?_)
  refine gop (y_assign (v := .slice _ _ _) rfl) rfl rfl rfl ?_
  refine gop_store 5 (v := .agg #[_, _]) (cs' := #[_, _]) rfl rfl Tryd.sizeOf23 rfl rfl rfl rfl (Nat.le_of_ble_eq_true rfl) rfl rfl ?_
  refine gops_nil ?_
  refine hN3 _ _ ?_
  refine gT [box b6 _, rowl _ _ _ _ _ _, fr7, box b2 _, rowl _ _ _ _ _ _, box b4 _] rfl ?_
  refine gfrom [(1, .slice _ _ _), (2, .pointer _), (3, .slice _ _ _), (4, .pointer _)] ⟨rfl, rfl, rfl, rfl, trivial⟩ fun σ => ?_
  refine gseq fun N4 hN4 => ?_
  refine greg ?_
  refine gop (y_fieldAddr_box fa23_0 rfl) rfl rfl rfl ?_
  refine gop (y_load Tryd.isAgg3 rfl (cell_box 3 rfl rfl)) rfl rfl rfl ?_
  refine gop (y_eql rfl rfl) rfl rfl rfl ?_
  refine gop (y_move (v := .bool _) rfl) rfl rfl rfl ?_
  refine gop_if (want := true) rfl rfl rfl rfl rfl rfl (fun hg18 => ?_) (fun hg18 => ?_)
  · 
    have hg18d := of_decide_eq_true hg18
    refine gop (y_bare (y_fieldAddr_box fa23_0 rfl)) rfl rfl rfl ?_
    refine gop_on rfl rfl rfl rfl hg18 ?_
    refine gop (y_bare (y_load Tryd.isAgg3 rfl (cell_box 5 rfl rfl))) rfl rfl rfl ?_
    refine gop_on rfl rfl rfl rfl hg18 ?_
    refine gop (y_bare (y_eql rfl rfl)) rfl rfl rfl ?_
    refine gop (y_pick_t (v := .bool _) rfl hg18 rfl) rfl rfl rfl ?_
    refine gop (y_move (v := .bool _) rfl) rfl rfl rfl ?_
    refine gop_if (want := true) rfl rfl rfl rfl rfl rfl (fun hg23 => ?_) (fun hg23 => ?_)
    · 
      have hg23d := of_decide_eq_true hg23
      refine gop (y_bare (y_move (v := .slice _ _ _) rfl)) rfl rfl rfl ?_
      refine gop_on rfl rfl rfl rfl hg23 ?_
      refine gop (y_bare (y_len Tryd.underlying29 rfl)) rfl rfl rfl ?_
      refine gop_on rfl rfl rfl rfl hg23 ?_
      refine gop (y_bare (y_eql rfl rfl)) rfl rfl rfl ?_
      refine gop (y_pick_t (v := .bool _) rfl hg23 rfl) rfl rfl rfl ?_
      refine gop (y_move (v := .bool _) rfl) rfl rfl rfl ?_
      refine gop_if (want := true) rfl rfl rfl rfl rfl rfl (fun hg28 => ?_) (fun hg28 => ?_)
      · 
        have hg28d := of_decide_eq_true hg28
        refine gop (y_bare (y_move (v := .slice _ _ _) rfl)) rfl rfl rfl ?_
        refine gop_on rfl rfl rfl rfl hg28 ?_
        refine gop_lit (vs := [.int _ _, .int _ _]) (cells := #[_, _]) Tryd.underlying30 Tryd.sizeOf3 Tryd.zeroValue3 rfl (by decide) (by decide) rfl rfl rfl rfl (fun b30 hb30 => ?_)
        refine gop_on rfl rfl rfl rfl hg28 ?_
        refine gop_pure (e_call (vs := [.slice _ _ _, .slice (some _) _ _]) Tryd.func20 rfl (by kernel_rfl) rfl) (fun w hM => sameInts_any w _ _ _ _ [1, 3] [1, 3] ((row_rdl (f := intCells) (fun _ => rfl) (hM.ok _ (List.mem_of_getElem? (i := 4) rfl))).mono (Nat.zero_le _)) ((Rdl.of_box 6 (f := intCells) (fun _ => rfl) hM rfl rfl).mono (Nat.zero_le _)) (by decide)) rfl rfl rfl ?_
        refine gop (y_pick_t (v := .bool _) rfl hg28 rfl) rfl rfl rfl ?_
        refine gop (y_assign (v := .bool _) rfl) rfl rfl rfl ?_
        refine gops_nil ?_
        refine hN4 _ _ ?_
        refine gT [box b6 _, rowl _ _ _ _ _ _, fr7, box b2 _, rowl _ _ _ _ _ _, box b4 _, box b30 _] rfl ?_
        refine gfrom [(0, .bool _)] ⟨rfl, trivial⟩ fun σ => ?_
        refine gret fun w1 hM => ?_
        refine ⟨_, res1 rfl (rt (v := .bool _) rfl), ?_⟩
        exact ⟨rfl, hM.low⟩
      · 
         rw [hl7] at hg28; exact absurd hg28 (by decide)
    · 
       exact absurd hg23 (by decide)
  · 
     exact absurd hg18 (by decide)
end Go.Proofs.YtijpaljdclhehaaDoor
namespace Go.Proofs.YtijpaljdclhehaaDoor
open Go.RowKit Go.Cf
set_option maxRecDepth 10000
attribute [local irreducible] ofV ofF matchV matchF
set_option maxHeartbeats 8000000 in
theorem law22_any (w : World) (A : Option Addr) (c : Nat) (rs : List RuleC) (hR : RulesR w 0 A c rs) (hrn : rs.length ≤ 1048576) (pat : ByteArray) (us : List Int) (B : Option Addr) (d : Nat) (hL : RuleR w 0 ⟨⟨pat, us⟩, B, d⟩) (path : ByteArray) : Calls Tryd.prog 6 #[.slice A rs.length c, .agg #[.string pat, .slice B us.length d], .string path] w fun e w' => e = .returned (.bool true) ∧ Below w.heap.size w w' := by
  have hln := hR.sb.len
  have hmx := hR.sb.max
  unfold maxLen at hmx
  have hA0 := hR.sb.nil
  have hpl : rls (rs ++ [⟨⟨pat, us⟩, B, d⟩]) = (rls rs ++ [⟨pat, us⟩]) := List.map_append
  have hlu : us.length ≤ maxLen := Nat.le_trans hL.sb.len hL.sb.max
  have hb40 : (rs ++ ([⟨⟨pat, us⟩, B, d⟩] : List RuleC)).length ≤ 1000000000 := by simp; omega
  refine gcalls Tryd.func6 rfl Tryd.ntmps6 (Nat.le_of_ble_eq_true rfl) ?_
  refine gfrom [(0, .slice _ _ _), (1, .agg #[_, _]), (2, .string _)] ⟨rfl, rfl, rfl, trivial⟩ fun σ => ?_
  refine gseq fun N1 hN1 => ?_
  refine greg ?_
  refine gop_box (v := .agg #[_, _]) (cs := #[_, _]) rfl rfl rfl (fun b4 hb4 => ?_)
  refine gop (y_assign (v := .bool _) rfl) rfl rfl rfl ?_
  refine gops_nil ?_
  refine hN1 _ _ ?_
  refine gT [box b4 _] rfl ?_
  refine gfrom [(0, .slice _ _ _), (2, .string _), (4, .pointer _)] ⟨rfl, rfl, rfl, trivial⟩ fun σ => ?_
  refine gseq fun N2 hN2 => ?_
  refine greg ?_
  refine gop (y_move (v := .slice _ _ _) rfl) rfl rfl rfl ?_
  refine gop (y_move (v := .string _) rfl) rfl rfl rfl ?_
  refine gop_got (fun v T' => ∃ v1 lo, w.heap.size ≤ lo ∧ v = .tuple #[v1, fv (ofF (rls rs) path)] ∧ T' = [rowl intCells lo 3 1 (v1) (ofV (rls rs) path)]) (e_call (vs := [.slice _ _ _, .string _]) Tryd.func18 rfl (by kernel_rfl) rfl) (fun w hM => by have hc := of_any w A c (rs) (RulesR.lasts.base hR hM) path; exact hc.mono fun _ _ ⟨v, T1, h1, h2, h3⟩ => ⟨_, T1, h1, ⟨v, _, hM.low.size, rfl, h2⟩, h3⟩) rfl rfl rfl ?_
  rintro _ _ ⟨v16, lo16, hlo16, rfl, rfl⟩
  refine gops_fact (fun w hM => row_form (hM.ok _ (List.mem_of_getElem? (i := 1) rfl))) ?_
  rintro ⟨A16, c16, rfl, hc16, hm16, hn16⟩
  refine gops_mem _ (weak_lower 1 rfl hlo16) ?_
  refine gop (y_move (v := .tuple #[.slice A16 _ c16, .agg #[_, _]]) rfl) rfl rfl rfl ?_
  refine gop (y_extract (v := .slice _ _ _) rfl rfl) rfl rfl rfl ?_
  refine gop (y_extract (v := .agg #[_, _]) rfl rfl) rfl rfl rfl ?_
  refine gop_alloc (cs := #[.int .i64 0, .int .i64 0]) Tryd.zeroValue23 rfl rfl (fun b8 hb8 => ?_)
  refine gop (y_assign (v := .slice _ _ _) rfl) rfl rfl rfl ?_
  refine gop_store 2 (v := .agg #[_, _]) (cs' := #[_, _]) rfl rfl Tryd.sizeOf23 rfl rfl rfl rfl (Nat.le_of_ble_eq_true rfl) rfl rfl ?_
  refine gops_nil ?_
  refine hN2 _ _ ?_
  refine gT [box b4 _, rowl _ _ _ _ _ _, box b8 _] rfl ?_
  refine gfrom [(0, .slice _ _ _), (2, .string _), (4, .pointer _), (7, .slice _ _ _), (8, .pointer _)] ⟨rfl, rfl, rfl, rfl, rfl, trivial⟩ fun σ => ?_
  refine gseq fun N3 hN3 => ?_
  refine gfrom [(0, .slice _ _ _), (2, .string _), (4, .pointer _), (7, .slice _ _ _), (8, .pointer _)] ⟨rfl, rfl, rfl, rfl, rfl, trivial⟩ fun σ => ?_
  refine gcut2 (Lf := [(2, .string _), (4, .pointer _), (7, .slice _ _ _), (8, .pointer _)]) (G := Option Addr × Nat × Nat) (fun (A26, c26, b10) => (ofV (rls rs ++ [⟨pat, us⟩]) path).length ≤ c26 ∧ c26 ≤ maxLen) (fun (A26, c26, b10) => [(9, .slice A26 (ofV (rls rs ++ [⟨pat, us⟩]) path).length c26), (10, .pointer (some ⟨b10, 0, none⟩))]) (fun (A26, c26, b10) => [box b4 (.cells #[.string pat, .slice B us.length d] 32), rowl intCells w.heap.size 3 1 (.slice A16 (ofV (rls rs) path).length c16) (ofV (rls rs) path), box b8 (.cells #[.int .i64 (ofF (rls rs) path).code, .int .i64 (ofF (rls rs) path).index] 23), rowl intCells w.heap.size 3 1 (.slice A26 (ofV (rls rs ++ [⟨pat, us⟩]) path).length c26) (ofV (rls rs ++ [⟨pat, us⟩]) path), box b10 (.cells #[.int .i64 (ofF (rls rs ++ [⟨pat, us⟩]) path).code, .int .i64 (ofF (rls rs ++ [⟨pat, us⟩]) path).index] 23)]) ⟨rfl, rfl, rfl, rfl, trivial⟩ ?_ ?_
  ·
    refine greg_e0 [4, 12] (by kernel_rfl) ?_
    refine ge_take 0 (TK := [box b4 _, rowl _ _ _ _ _ _, box b8 _]) rfl (by kernel_rfl) (by kernel_rfl) (by kernel_rfl) #[false, false, true, true, false, true, false, false, false, false, true, false, false] (by kernel_rfl) rfl (y_move (v := .slice _ _ _) rfl) rfl rfl rfl (weak_refl) (listed' := #[true, false, false, false, false, false, false, false, false, false, false, false, false]) rfl ?_
    refine ge_take 2 (TK := [box b4 _, rowl _ _ _ _ _ _, box b8 _]) rfl (by kernel_rfl) (by kernel_rfl) (by kernel_rfl) #[true, true, false, false, false, true, false, false, false, false, true, false, false] (by kernel_rfl) rfl (y_loads (cs := [_, _]) Tryd.isAgg32 Tryd.sizeOf32 rfl rfl (cells_box 0 rfl)) rfl rfl rfl (weak_refl) (listed' := #[true, false, true, false, false, false, false, false, false, false, false, false, false]) rfl ?_
    refine ge_takep 5 (TK := [box b4 _, rowl _ _ _ _ _ _, box b8 _]) rfl (by kernel_rfl) (by kernel_rfl) (by kernel_rfl) rfl rfl (y_move (v := .string _) rfl) rfl rfl rfl (weak_refl) (listed' := #[true, false, true, false, false, true, false, false, false, false, false, false, false]) rfl ?_
    refine ge_three 1 3 10 (by kernel_rfl) ?_ ?_ ?_
    · 
      refine ge_op 1 (k' := 0) (listed' := #[true, true, true, false, false, true, false, false, false, false, false, false, false]) rfl rfl rfl ?_
      refine gops_nilrow ruleCells 32 2 ?_
      refine gop_append 3 (f := ruleCells) (l2 := rs) Tryd.underlying29 el32 wide_rule (v := .slice none 0 0) rfl rfl rfl rfl hA0 (by simp [maxLen]; omega) (by simp; omega) (fun w hM => (hR.rd.base hM).src (fun _ => rfl)) rfl (fun v21 => ?_)
      refine gops_fact (fun w hM => own_form (hM.own 3 rfl)) ?_
      rintro ⟨A21, c21, rfl, hc21, hm21⟩
      refine gops_nil ?_
      refine ge_fin (TK := [box b4 _, rowl _ _ _ _ _ _, box b8 _]) rfl (weak_take (T' := [box b4 _, rowl _ _ _ _ _ _, box b8 _]) rfl) ?_
      refine ge_two 3 10 (by kernel_rfl) ?_ ?_
      · 
        refine ge_op 3 (k' := 0) (listed' := #[true, true, true, true, false, true, false, false, false, false, false, false, false]) rfl rfl rfl ?_
        refine gop_lit (vs := [.agg #[_, _]]) (cells := #[_, _]) Tryd.underlying29 Tryd.sizeOf32 Tryd.zeroValue32 rfl (by decide) (by decide) rfl rfl rfl rfl (fun b23 hb23 => ?_)
        refine gops_nil ?_
        refine ge_fin (TK := [box b4 _, rowl _ _ _ _ _ _, box b8 _]) rfl (weak_take (T' := [box b4 _, rowl _ _ _ _ _ _, box b8 _]) rfl) ?_
        refine ge_two 4 10 (by kernel_rfl) ?_ ?_
        · 
          refine ge_op 4 (k' := 1) (listed' := #[true, true, true, true, true, true, false, false, false, false, false, false, false]) rfl rfl rfl ?_
          refine gop_append 3 (f := ruleCells) (l2 := [⟨⟨pat, us⟩, B, d⟩]) Tryd.underlying29 el32 wide_rule (v := .slice A21 _ c21) rfl rfl rfl rfl (fun h => by cases h) (by simp [maxLen]; omega) (by simp; omega) (src_box 4 rfl rfl) rfl (fun v24 => ?_)
          refine gops_fact (fun w hM => own_form (hM.own 3 rfl)) ?_
          rintro ⟨A24, c24, rfl, hc24, hm24⟩
          refine gops_nil ?_
          refine ge_fin (TK := []) rfl (weak_nil) ?_
          refine ge_two 6 10 (by kernel_rfl) ?_ ?_
          · 
            refine ge_op 6 (k' := 1) (listed' := #[true, true, true, true, true, true, true, false, false, false, false, false, false]) rfl rfl rfl ?_
            refine gop_got (fun v T' => ∃ v1 lo, w.heap.size ≤ lo ∧ v = .tuple #[v1, fv (ofF (rls rs ++ [⟨pat, us⟩]) path)] ∧ T' = [rowl intCells lo 3 1 (v1) (ofV (rls rs ++ [⟨pat, us⟩]) path)]) (e_call (vs := [.slice A24 _ c24, .string _]) Tryd.func18 rfl (by kernel_rfl) rfl) (fun w hM => by have he : ∀ a ∈ (rs ++ [⟨⟨pat, us⟩, B, d⟩]), RuleR w 0 a := (fun a ha => (List.mem_append.1 ha).elim (fun h1 => RuleR.lasts.base (hR.each a h1) hM) (fun h1 => by rw [List.mem_singleton.1 h1]; exact RuleR.lasts.base hL hM)); have hr : RulesR w 0 A24 c24 (rs ++ [⟨⟨pat, us⟩, B, d⟩]) := rulesR_own (l := (rs ++ [⟨⟨pat, us⟩, B, d⟩])) (hM.own 3 rfl) he hb40; have hc := of_any w A24 c24 (rs ++ [⟨⟨pat, us⟩, B, d⟩]) hr path; rw [hpl] at hc; exact hc.mono fun _ _ ⟨v, T1, h1, h2, h3⟩ => ⟨_, T1, h1, ⟨v, _, hM.low.size, rfl, h2⟩, h3⟩) rfl rfl rfl ?_
            rintro _ _ ⟨v26, lo26, hlo26, rfl, rfl⟩
            refine gops_fact (fun w hM => row_form (hM.ok _ (List.mem_of_getElem? (i := 5) rfl))) ?_
            rintro ⟨A26, c26, rfl, hc26, hm26, hn26⟩
            refine gops_mem _ (weak_lower 5 rfl hlo26) ?_
            refine gops_nil ?_
            refine ge_fin (TK := []) rfl (weak_nil) ?_
            refine ge_take 7 (TK := []) rfl (by kernel_rfl) (by kernel_rfl) (by kernel_rfl) #[true, true, true, true, true, true, true, false, false, false, true, false, false] (by kernel_rfl) rfl (y_move (v := .tuple #[.slice A26 _ c26, .agg #[_, _]]) rfl) rfl rfl rfl (weak_nil) (listed' := #[true, true, true, true, true, true, true, true, false, false, false, false, false]) rfl ?_
            refine ge_take 8 (TK := []) rfl (by kernel_rfl) (by kernel_rfl) (by kernel_rfl) #[true, true, true, true, true, true, true, true, false, true, true, false, false] (by kernel_rfl) rfl (y_extract (v := .slice _ _ _) rfl rfl) rfl rfl rfl (weak_nil) (listed' := #[true, true, true, true, true, true, true, true, true, false, false, false, false]) rfl ?_
            refine ge_take 9 (TK := []) rfl (by kernel_rfl) (by kernel_rfl) (by kernel_rfl) #[true, true, true, true, true, true, true, true, true, false, true, true, false] (by kernel_rfl) rfl (y_extract (v := .agg #[_, _]) rfl rfl) rfl rfl rfl (weak_nil) (listed' := #[true, true, true, true, true, true, true, true, true, true, false, false, false]) rfl ?_
            refine ge_one 10 (k' := 1) (listed' := #[true, true, true, true, true, true, true, true, true, true, true, false, false]) (by kernel_rfl) rfl rfl rfl ?_
            refine gop_alloc (cs := #[.int .i64 0, .int .i64 0]) Tryd.zeroValue23 rfl rfl (fun b10 hb10 => ?_)
            refine gops_nil ?_
            refine ge_fin (TK := []) rfl (weak_nil) ?_
            refine ge_take 11 (TK := []) rfl (by kernel_rfl) (by kernel_rfl) (by kernel_rfl) #[true, true, true, true, true, true, true, true, true, true, true, false, false] (by kernel_rfl) rfl (y_assign (v := .slice _ _ _) rfl) rfl rfl rfl (weak_nil) (listed' := #[true, true, true, true, true, true, true, true, true, true, true, true, false]) rfl ?_
            refine ge_one 12 (k' := 2) (listed' := #[true, true, true, true, true, true, true, true, true, true, true, true, true]) (by kernel_rfl) rfl rfl rfl ?_
            refine gop_store 6 (v := .agg #[_, _]) (cs' := #[_, _]) rfl rfl Tryd.sizeOf23 rfl rfl rfl rfl (Nat.le_of_ble_eq_true rfl) rfl rfl ?_
            refine gops_nil ?_
            refine ge_fin (TK := []) rfl (weak_nil) ?_
            refine ge_done (by kernel_rfl) ?_
            refine fin_T [box b4 _, rowl _ _ _ _ _ _, box b8 _, rowl _ _ _ _ _ _, box b23 _, rowl _ _ _ _ _ _, box b10 _] rfl ?_
            refine fin_mem _ (weak_toend 5 rfl) ?_
            refine fin_T [box b4 _, rowl _ _ _ _ _ _, box b8 _, rowl _ _ _ _ _ _, box b23 _, box b10 _, rowl _ _ _ _ _ _] rfl ?_
            refine fin_mem _ (weak_toend 5 rfl) ?_
            refine fin_T [box b4 _, rowl _ _ _ _ _ _, box b8 _, rowl _ _ _ _ _ _, box b23 _, rowl _ _ _ _ _ _, box b10 _] rfl ?_
            refine fin_mem _ (weak_toend 3 rfl) ?_
            refine fin_T [box b4 _, rowl _ _ _ _ _ _, box b8 _, box b23 _, rowl _ _ _ _ _ _, box b10 _, rowl _ _ _ _ _ _] rfl ?_
            refine fin_mem _ (weak_toend 3 rfl) ?_
            refine fin_T [box b4 _, rowl _ _ _ _ _ _, box b8 _, rowl _ _ _ _ _ _, box b10 _, rowl _ _ _ _ _ _, box b23 _] rfl ?_
            refine gcut2_end ((A26, c26, b10)) (⟨hc26, hm26⟩) ⟨rfl, rfl, trivial⟩ ⟨rfl, rfl, rfl, rfl, trivial⟩ ⟨_, rfl⟩
          · 
            refine ge_op 10 (k' := 1) (listed' := #[true, true, true, true, true, true, false, false, false, false, true, false, false]) rfl rfl rfl ?_
            refine gop_alloc (cs := #[.int .i64 0, .int .i64 0]) Tryd.zeroValue23 rfl rfl (fun b10 hb10 => ?_)
            refine gops_nil ?_
            refine ge_fin (TK := []) rfl (weak_nil) ?_
            refine ge_one 6 (k' := 1) (listed' := #[true, true, true, true, true, true, true, false, false, false, true, false, false]) (by kernel_rfl) rfl rfl rfl ?_
            refine gop_got (fun v T' => ∃ v1 lo, w.heap.size ≤ lo ∧ v = .tuple #[v1, fv (ofF (rls rs ++ [⟨pat, us⟩]) path)] ∧ T' = [rowl intCells lo 3 1 (v1) (ofV (rls rs ++ [⟨pat, us⟩]) path)]) (e_call (vs := [.slice A24 _ c24, .string _]) Tryd.func18 rfl (by kernel_rfl) rfl) (fun w hM => by have he : ∀ a ∈ (rs ++ [⟨⟨pat, us⟩, B, d⟩]), RuleR w 0 a := (fun a ha => (List.mem_append.1 ha).elim (fun h1 => RuleR.lasts.base (hR.each a h1) hM) (fun h1 => by rw [List.mem_singleton.1 h1]; exact RuleR.lasts.base hL hM)); have hr : RulesR w 0 A24 c24 (rs ++ [⟨⟨pat, us⟩, B, d⟩]) := rulesR_own (l := (rs ++ [⟨⟨pat, us⟩, B, d⟩])) (hM.own 3 rfl) he hb40; have hc := of_any w A24 c24 (rs ++ [⟨⟨pat, us⟩, B, d⟩]) hr path; rw [hpl] at hc; exact hc.mono fun _ _ ⟨v, T1, h1, h2, h3⟩ => ⟨_, T1, h1, ⟨v, _, hM.low.size, rfl, h2⟩, h3⟩) rfl rfl rfl ?_
            rintro _ _ ⟨v26, lo26, hlo26, rfl, rfl⟩
            refine gops_fact (fun w hM => row_form (hM.ok _ (List.mem_of_getElem? (i := 6) rfl))) ?_
            rintro ⟨A26, c26, rfl, hc26, hm26, hn26⟩
            refine gops_mem _ (weak_lower 6 rfl hlo26) ?_
            refine gops_nil ?_
            refine ge_fin (TK := []) rfl (weak_nil) ?_
            refine ge_take 7 (TK := []) rfl (by kernel_rfl) (by kernel_rfl) (by kernel_rfl) #[true, true, true, true, true, true, true, false, false, false, true, false, false] (by kernel_rfl) rfl (y_move (v := .tuple #[.slice A26 _ c26, .agg #[_, _]]) rfl) rfl rfl rfl (weak_nil) (listed' := #[true, true, true, true, true, true, true, true, false, false, true, false, false]) rfl ?_
            refine ge_take 8 (TK := []) rfl (by kernel_rfl) (by kernel_rfl) (by kernel_rfl) #[true, true, true, true, true, true, true, true, false, true, true, false, false] (by kernel_rfl) rfl (y_extract (v := .slice _ _ _) rfl rfl) rfl rfl rfl (weak_nil) (listed' := #[true, true, true, true, true, true, true, true, true, false, true, false, false]) rfl ?_
            refine ge_take 9 (TK := []) rfl (by kernel_rfl) (by kernel_rfl) (by kernel_rfl) #[true, true, true, true, true, true, true, true, true, false, true, true, false] (by kernel_rfl) rfl (y_extract (v := .agg #[_, _]) rfl rfl) rfl rfl rfl (weak_nil) (listed' := #[true, true, true, true, true, true, true, true, true, true, true, false, false]) rfl ?_
            refine ge_take 11 (TK := []) rfl (by kernel_rfl) (by kernel_rfl) (by kernel_rfl) #[true, true, true, true, true, true, true, true, true, true, true, false, false] (by kernel_rfl) rfl (y_assign (v := .slice _ _ _) rfl) rfl rfl rfl (weak_nil) (listed' := #[true, true, true, true, true, true, true, true, true, true, true, true, false]) rfl ?_
            refine ge_one 12 (k' := 2) (listed' := #[true, true, true, true, true, true, true, true, true, true, true, true, true]) (by kernel_rfl) rfl rfl rfl ?_
            refine gop_store 5 (v := .agg #[_, _]) (cs' := #[_, _]) rfl rfl Tryd.sizeOf23 rfl rfl rfl rfl (Nat.le_of_ble_eq_true rfl) rfl rfl ?_
            refine gops_nil ?_
            refine ge_fin (TK := []) rfl (weak_nil) ?_
            refine ge_done (by kernel_rfl) ?_
            refine fin_T [box b4 _, rowl _ _ _ _ _ _, box b8 _, rowl _ _ _ _ _ _, box b23 _, box b10 _, rowl _ _ _ _ _ _] rfl ?_
            refine fin_mem _ (weak_toend 6 rfl) ?_
            refine fin_T [box b4 _, rowl _ _ _ _ _ _, box b8 _, rowl _ _ _ _ _ _, box b23 _, box b10 _, rowl _ _ _ _ _ _] rfl ?_
            refine fin_mem _ (weak_toend 5 rfl) ?_
            refine fin_T [box b4 _, rowl _ _ _ _ _ _, box b8 _, rowl _ _ _ _ _ _, box b23 _, rowl _ _ _ _ _ _, box b10 _] rfl ?_
            refine fin_mem _ (weak_toend 3 rfl) ?_
            refine fin_T [box b4 _, rowl _ _ _ _ _ _, box b8 _, box b23 _, rowl _ _ _ _ _ _, box b10 _, rowl _ _ _ _ _ _] rfl ?_
            refine fin_mem _ (weak_toend 3 rfl) ?_
            refine fin_T [box b4 _, rowl _ _ _ _ _ _, box b8 _, rowl _ _ _ _ _ _, box b10 _, rowl _ _ _ _ _ _, box b23 _] rfl ?_
            refine gcut2_end ((A26, c26, b10)) (⟨hc26, hm26⟩) ⟨rfl, rfl, trivial⟩ ⟨rfl, rfl, rfl, rfl, trivial⟩ ⟨_, rfl⟩
        · 
          refine ge_op 10 (k' := 0) (listed' := #[true, true, true, true, false, true, false, false, false, false, true, false, false]) rfl rfl rfl ?_
          refine gop_alloc (cs := #[.int .i64 0, .int .i64 0]) Tryd.zeroValue23 rfl rfl (fun b10 hb10 => ?_)
          refine gops_nil ?_
          refine ge_fin (TK := [box b4 _, rowl _ _ _ _ _ _, box b8 _]) rfl (weak_take (T' := [box b4 _, rowl _ _ _ _ _ _, box b8 _]) rfl) ?_
          refine ge_one 4 (k' := 1) (listed' := #[true, true, true, true, true, true, false, false, false, false, true, false, false]) (by kernel_rfl) rfl rfl rfl ?_
          refine gop_append 3 (f := ruleCells) (l2 := [⟨⟨pat, us⟩, B, d⟩]) Tryd.underlying29 el32 wide_rule (v := .slice A21 _ c21) rfl rfl rfl rfl (fun h => by cases h) (by simp [maxLen]; omega) (by simp; omega) (src_box 4 rfl rfl) rfl (fun v24 => ?_)
          refine gops_fact (fun w hM => own_form (hM.own 3 rfl)) ?_
          rintro ⟨A24, c24, rfl, hc24, hm24⟩
          refine gops_nil ?_
          refine ge_fin (TK := []) rfl (weak_nil) ?_
          refine ge_one 6 (k' := 1) (listed' := #[true, true, true, true, true, true, true, false, false, false, true, false, false]) (by kernel_rfl) rfl rfl rfl ?_
          refine gop_got (fun v T' => ∃ v1 lo, w.heap.size ≤ lo ∧ v = .tuple #[v1, fv (ofF (rls rs ++ [⟨pat, us⟩]) path)] ∧ T' = [rowl intCells lo 3 1 (v1) (ofV (rls rs ++ [⟨pat, us⟩]) path)]) (e_call (vs := [.slice A24 _ c24, .string _]) Tryd.func18 rfl (by kernel_rfl) rfl) (fun w hM => by have he : ∀ a ∈ (rs ++ [⟨⟨pat, us⟩, B, d⟩]), RuleR w 0 a := (fun a ha => (List.mem_append.1 ha).elim (fun h1 => RuleR.lasts.base (hR.each a h1) hM) (fun h1 => by rw [List.mem_singleton.1 h1]; exact RuleR.lasts.base hL hM)); have hr : RulesR w 0 A24 c24 (rs ++ [⟨⟨pat, us⟩, B, d⟩]) := rulesR_own (l := (rs ++ [⟨⟨pat, us⟩, B, d⟩])) (hM.own 3 rfl) he hb40; have hc := of_any w A24 c24 (rs ++ [⟨⟨pat, us⟩, B, d⟩]) hr path; rw [hpl] at hc; exact hc.mono fun _ _ ⟨v, T1, h1, h2, h3⟩ => ⟨_, T1, h1, ⟨v, _, hM.low.size, rfl, h2⟩, h3⟩) rfl rfl rfl ?_
          rintro _ _ ⟨v26, lo26, hlo26, rfl, rfl⟩
          refine gops_fact (fun w hM => row_form (hM.ok _ (List.mem_of_getElem? (i := 6) rfl))) ?_
          rintro ⟨A26, c26, rfl, hc26, hm26, hn26⟩
          refine gops_mem _ (weak_lower 6 rfl hlo26) ?_
          refine gops_nil ?_
          refine ge_fin (TK := []) rfl (weak_nil) ?_
          refine ge_take 7 (TK := []) rfl (by kernel_rfl) (by kernel_rfl) (by kernel_rfl) #[true, true, true, true, true, true, true, false, false, false, true, false, false] (by kernel_rfl) rfl (y_move (v := .tuple #[.slice A26 _ c26, .agg #[_, _]]) rfl) rfl rfl rfl (weak_nil) (listed' := #[true, true, true, true, true, true, true, true, false, false, true, false, false]) rfl ?_
          refine ge_take 8 (TK := []) rfl (by kernel_rfl) (by kernel_rfl) (by kernel_rfl) #[true, true, true, true, true, true, true, true, false, true, true, false, false] (by kernel_rfl) rfl (y_extract (v := .slice _ _ _) rfl rfl) rfl rfl rfl (weak_nil) (listed' := #[true, true, true, true, true, true, true, true, true, false, true, false, false]) rfl ?_
          refine ge_take 9 (TK := []) rfl (by kernel_rfl) (by kernel_rfl) (by kernel_rfl) #[true, true, true, true, true, true, true, true, true, false, true, true, false] (by kernel_rfl) rfl (y_extract (v := .agg #[_, _]) rfl rfl) rfl rfl rfl (weak_nil) (listed' := #[true, true, true, true, true, true, true, true, true, true, true, false, false]) rfl ?_
          refine ge_take 11 (TK := []) rfl (by kernel_rfl) (by kernel_rfl) (by kernel_rfl) #[true, true, true, true, true, true, true, true, true, true, true, false, false] (by kernel_rfl) rfl (y_assign (v := .slice _ _ _) rfl) rfl rfl rfl (weak_nil) (listed' := #[true, true, true, true, true, true, true, true, true, true, true, true, false]) rfl ?_
          refine ge_one 12 (k' := 2) (listed' := #[true, true, true, true, true, true, true, true, true, true, true, true, true]) (by kernel_rfl) rfl rfl rfl ?_
          refine gop_store 5 (v := .agg #[_, _]) (cs' := #[_, _]) rfl rfl Tryd.sizeOf23 rfl rfl rfl rfl (Nat.le_of_ble_eq_true rfl) rfl rfl ?_
          refine gops_nil ?_
          refine ge_fin (TK := []) rfl (weak_nil) ?_
          refine ge_done (by kernel_rfl) ?_
          refine fin_T [box b4 _, rowl _ _ _ _ _ _, box b8 _, rowl _ _ _ _ _ _, box b23 _, box b10 _, rowl _ _ _ _ _ _] rfl ?_
          refine fin_mem _ (weak_toend 6 rfl) ?_
          refine fin_T [box b4 _, rowl _ _ _ _ _ _, box b8 _, rowl _ _ _ _ _ _, box b23 _, box b10 _, rowl _ _ _ _ _ _] rfl ?_
          refine fin_mem _ (weak_toend 5 rfl) ?_
          refine fin_T [box b4 _, rowl _ _ _ _ _ _, box b8 _, rowl _ _ _ _ _ _, box b23 _, rowl _ _ _ _ _ _, box b10 _] rfl ?_
          refine fin_mem _ (weak_toend 3 rfl) ?_
          refine fin_T [box b4 _, rowl _ _ _ _ _ _, box b8 _, box b23 _, rowl _ _ _ _ _ _, box b10 _, rowl _ _ _ _ _ _] rfl ?_
          refine fin_mem _ (weak_toend 3 rfl) ?_
          refine fin_T [box b4 _, rowl _ _ _ _ _ _, box b8 _, rowl _ _ _ _ _ _, box b10 _, rowl _ _ _ _ _ _, box b23 _] rfl ?_
          refine gcut2_end ((A26, c26, b10)) (⟨hc26, hm26⟩) ⟨rfl, rfl, trivial⟩ ⟨rfl, rfl, rfl, rfl, trivial⟩ ⟨_, rfl⟩
      · 
        refine ge_op 10 (k' := 0) (listed' := #[true, true, true, false, false, true, false, false, false, false, true, false, false]) rfl rfl rfl ?_
        refine gop_alloc (cs := #[.int .i64 0, .int .i64 0]) Tryd.zeroValue23 rfl rfl (fun b10 hb10 => ?_)
        refine gops_nil ?_
        refine ge_fin (TK := [box b4 _, rowl _ _ _ _ _ _, box b8 _]) rfl (weak_take (T' := [box b4 _, rowl _ _ _ _ _ _, box b8 _]) rfl) ?_
        refine ge_one 3 (k' := 0) (listed' := #[true, true, true, true, false, true, false, false, false, false, true, false, false]) (by kernel_rfl) rfl rfl rfl ?_
        refine gop_lit (vs := [.agg #[_, _]]) (cells := #[_, _]) Tryd.underlying29 Tryd.sizeOf32 Tryd.zeroValue32 rfl (by decide) (by decide) rfl rfl rfl rfl (fun b23 hb23 => ?_)
        refine gops_nil ?_
        refine ge_fin (TK := [box b4 _, rowl _ _ _ _ _ _, box b8 _]) rfl (weak_take (T' := [box b4 _, rowl _ _ _ _ _ _, box b8 _]) rfl) ?_
        refine ge_one 4 (k' := 1) (listed' := #[true, true, true, true, true, true, false, false, false, false, true, false, false]) (by kernel_rfl) rfl rfl rfl ?_
        refine gop_append 3 (f := ruleCells) (l2 := [⟨⟨pat, us⟩, B, d⟩]) Tryd.underlying29 el32 wide_rule (v := .slice A21 _ c21) rfl rfl rfl rfl (fun h => by cases h) (by simp [maxLen]; omega) (by simp; omega) (src_box 5 rfl rfl) rfl (fun v24 => ?_)
        refine gops_fact (fun w hM => own_form (hM.own 3 rfl)) ?_
        rintro ⟨A24, c24, rfl, hc24, hm24⟩
        refine gops_nil ?_
        refine ge_fin (TK := []) rfl (weak_nil) ?_
        refine ge_one 6 (k' := 1) (listed' := #[true, true, true, true, true, true, true, false, false, false, true, false, false]) (by kernel_rfl) rfl rfl rfl ?_
        refine gop_got (fun v T' => ∃ v1 lo, w.heap.size ≤ lo ∧ v = .tuple #[v1, fv (ofF (rls rs ++ [⟨pat, us⟩]) path)] ∧ T' = [rowl intCells lo 3 1 (v1) (ofV (rls rs ++ [⟨pat, us⟩]) path)]) (e_call (vs := [.slice A24 _ c24, .string _]) Tryd.func18 rfl (by kernel_rfl) rfl) (fun w hM => by have he : ∀ a ∈ (rs ++ [⟨⟨pat, us⟩, B, d⟩]), RuleR w 0 a := (fun a ha => (List.mem_append.1 ha).elim (fun h1 => RuleR.lasts.base (hR.each a h1) hM) (fun h1 => by rw [List.mem_singleton.1 h1]; exact RuleR.lasts.base hL hM)); have hr : RulesR w 0 A24 c24 (rs ++ [⟨⟨pat, us⟩, B, d⟩]) := rulesR_own (l := (rs ++ [⟨⟨pat, us⟩, B, d⟩])) (hM.own 3 rfl) he hb40; have hc := of_any w A24 c24 (rs ++ [⟨⟨pat, us⟩, B, d⟩]) hr path; rw [hpl] at hc; exact hc.mono fun _ _ ⟨v, T1, h1, h2, h3⟩ => ⟨_, T1, h1, ⟨v, _, hM.low.size, rfl, h2⟩, h3⟩) rfl rfl rfl ?_
        rintro _ _ ⟨v26, lo26, hlo26, rfl, rfl⟩
        refine gops_fact (fun w hM => row_form (hM.ok _ (List.mem_of_getElem? (i := 6) rfl))) ?_
        rintro ⟨A26, c26, rfl, hc26, hm26, hn26⟩
        refine gops_mem _ (weak_lower 6 rfl hlo26) ?_
        refine gops_nil ?_
        refine ge_fin (TK := []) rfl (weak_nil) ?_
        refine ge_take 7 (TK := []) rfl (by kernel_rfl) (by kernel_rfl) (by kernel_rfl) #[true, true, true, true, true, true, true, false, false, false, true, false, false] (by kernel_rfl) rfl (y_move (v := .tuple #[.slice A26 _ c26, .agg #[_, _]]) rfl) rfl rfl rfl (weak_nil) (listed' := #[true, true, true, true, true, true, true, true, false, false, true, false, false]) rfl ?_
        refine ge_take 8 (TK := []) rfl (by kernel_rfl) (by kernel_rfl) (by kernel_rfl) #[true, true, true, true, true, true, true, true, false, true, true, false, false] (by kernel_rfl) rfl (y_extract (v := .slice _ _ _) rfl rfl) rfl rfl rfl (weak_nil) (listed' := #[true, true, true, true, true, true, true, true, true, false, true, false, false]) rfl ?_
        refine ge_take 9 (TK := []) rfl (by kernel_rfl) (by kernel_rfl) (by kernel_rfl) #[true, true, true, true, true, true, true, true, true, false, true, true, false] (by kernel_rfl) rfl (y_extract (v := .agg #[_, _]) rfl rfl) rfl rfl rfl (weak_nil) (listed' := #[true, true, true, true, true, true, true, true, true, true, true, false, false]) rfl ?_
        refine ge_take 11 (TK := []) rfl (by kernel_rfl) (by kernel_rfl) (by kernel_rfl) #[true, true, true, true, true, true, true, true, true, true, true, false, false] (by kernel_rfl) rfl (y_assign (v := .slice _ _ _) rfl) rfl rfl rfl (weak_nil) (listed' := #[true, true, true, true, true, true, true, true, true, true, true, true, false]) rfl ?_
        refine ge_one 12 (k' := 2) (listed' := #[true, true, true, true, true, true, true, true, true, true, true, true, true]) (by kernel_rfl) rfl rfl rfl ?_
        refine gop_store 4 (v := .agg #[_, _]) (cs' := #[_, _]) rfl rfl Tryd.sizeOf23 rfl rfl rfl rfl (Nat.le_of_ble_eq_true rfl) rfl rfl ?_
        refine gops_nil ?_
        refine ge_fin (TK := []) rfl (weak_nil) ?_
        refine ge_done (by kernel_rfl) ?_
        refine fin_T [box b4 _, rowl _ _ _ _ _ _, box b8 _, rowl _ _ _ _ _ _, box b10 _, box b23 _, rowl _ _ _ _ _ _] rfl ?_
        refine fin_mem _ (weak_toend 6 rfl) ?_
        refine fin_T [box b4 _, rowl _ _ _ _ _ _, box b8 _, rowl _ _ _ _ _ _, box b10 _, box b23 _, rowl _ _ _ _ _ _] rfl ?_
        refine fin_mem _ (weak_toend 4 rfl) ?_
        refine fin_T [box b4 _, rowl _ _ _ _ _ _, box b8 _, rowl _ _ _ _ _ _, box b23 _, rowl _ _ _ _ _ _, box b10 _] rfl ?_
        refine fin_mem _ (weak_toend 3 rfl) ?_
        refine fin_T [box b4 _, rowl _ _ _ _ _ _, box b8 _, box b23 _, rowl _ _ _ _ _ _, box b10 _, rowl _ _ _ _ _ _] rfl ?_
        refine fin_mem _ (weak_toend 3 rfl) ?_
        refine fin_T [box b4 _, rowl _ _ _ _ _ _, box b8 _, rowl _ _ _ _ _ _, box b10 _, rowl _ _ _ _ _ _, box b23 _] rfl ?_
        refine gcut2_end ((A26, c26, b10)) (⟨hc26, hm26⟩) ⟨rfl, rfl, trivial⟩ ⟨rfl, rfl, rfl, rfl, trivial⟩ ⟨_, rfl⟩
    · 
      refine ge_op 3 (k' := 0) (listed' := #[true, false, true, true, false, true, false, false, false, false, false, false, false]) rfl rfl rfl ?_
      refine gop_lit (vs := [.agg #[_, _]]) (cells := #[_, _]) Tryd.underlying29 Tryd.sizeOf32 Tryd.zeroValue32 rfl (by decide) (by decide) rfl rfl rfl rfl (fun b23 hb23 => ?_)
      refine gops_nil ?_
      refine ge_fin (TK := [box b4 _, rowl _ _ _ _ _ _, box b8 _]) rfl (weak_take (T' := [box b4 _, rowl _ _ _ _ _ _, box b8 _]) rfl) ?_
      refine ge_two 1 10 (by kernel_rfl) ?_ ?_
      · 
        refine ge_op 1 (k' := 0) (listed' := #[true, true, true, true, false, true, false, false, false, false, false, false, false]) rfl rfl rfl ?_
        refine gops_nilrow ruleCells 32 2 ?_
        refine gop_append 4 (f := ruleCells) (l2 := rs) Tryd.underlying29 el32 wide_rule (v := .slice none 0 0) rfl rfl rfl rfl hA0 (by simp [maxLen]; omega) (by simp; omega) (fun w hM => (hR.rd.base hM).src (fun _ => rfl)) rfl (fun v21 => ?_)
        refine gops_fact (fun w hM => own_form (hM.own 4 rfl)) ?_
        rintro ⟨A21, c21, rfl, hc21, hm21⟩
        refine gops_nil ?_
        refine ge_fin (TK := [box b4 _, rowl _ _ _ _ _ _, box b8 _]) rfl (weak_take (T' := [box b4 _, rowl _ _ _ _ _ _, box b8 _]) rfl) ?_
        refine ge_two 4 10 (by kernel_rfl) ?_ ?_
        · 
          refine ge_op 4 (k' := 1) (listed' := #[true, true, true, true, true, true, false, false, false, false, false, false, false]) rfl rfl rfl ?_
          refine gop_append 4 (f := ruleCells) (l2 := [⟨⟨pat, us⟩, B, d⟩]) Tryd.underlying29 el32 wide_rule (v := .slice A21 _ c21) rfl rfl rfl rfl (fun h => by cases h) (by simp [maxLen]; omega) (by simp; omega) (src_box 3 rfl rfl) rfl (fun v24 => ?_)
          refine gops_fact (fun w hM => own_form (hM.own 4 rfl)) ?_
          rintro ⟨A24, c24, rfl, hc24, hm24⟩
          refine gops_nil ?_
          refine ge_fin (TK := []) rfl (weak_nil) ?_
          refine ge_two 6 10 (by kernel_rfl) ?_ ?_
          · 
            refine ge_op 6 (k' := 1) (listed' := #[true, true, true, true, true, true, true, false, false, false, false, false, false]) rfl rfl rfl ?_
            refine gop_got (fun v T' => ∃ v1 lo, w.heap.size ≤ lo ∧ v = .tuple #[v1, fv (ofF (rls rs ++ [⟨pat, us⟩]) path)] ∧ T' = [rowl intCells lo 3 1 (v1) (ofV (rls rs ++ [⟨pat, us⟩]) path)]) (e_call (vs := [.slice A24 _ c24, .string _]) Tryd.func18 rfl (by kernel_rfl) rfl) (fun w hM => by have he : ∀ a ∈ (rs ++ [⟨⟨pat, us⟩, B, d⟩]), RuleR w 0 a := (fun a ha => (List.mem_append.1 ha).elim (fun h1 => RuleR.lasts.base (hR.each a h1) hM) (fun h1 => by rw [List.mem_singleton.1 h1]; exact RuleR.lasts.base hL hM)); have hr : RulesR w 0 A24 c24 (rs ++ [⟨⟨pat, us⟩, B, d⟩]) := rulesR_own (l := (rs ++ [⟨⟨pat, us⟩, B, d⟩])) (hM.own 4 rfl) he hb40; have hc := of_any w A24 c24 (rs ++ [⟨⟨pat, us⟩, B, d⟩]) hr path; rw [hpl] at hc; exact hc.mono fun _ _ ⟨v, T1, h1, h2, h3⟩ => ⟨_, T1, h1, ⟨v, _, hM.low.size, rfl, h2⟩, h3⟩) rfl rfl rfl ?_
            rintro _ _ ⟨v26, lo26, hlo26, rfl, rfl⟩
            refine gops_fact (fun w hM => row_form (hM.ok _ (List.mem_of_getElem? (i := 5) rfl))) ?_
            rintro ⟨A26, c26, rfl, hc26, hm26, hn26⟩
            refine gops_mem _ (weak_lower 5 rfl hlo26) ?_
            refine gops_nil ?_
            refine ge_fin (TK := []) rfl (weak_nil) ?_
            refine ge_take 7 (TK := []) rfl (by kernel_rfl) (by kernel_rfl) (by kernel_rfl) #[true, true, true, true, true, true, true, false, false, false, true, false, false] (by kernel_rfl) rfl (y_move (v := .tuple #[.slice A26 _ c26, .agg #[_, _]]) rfl) rfl rfl rfl (weak_nil) (listed' := #[true, true, true, true, true, true, true, true, false, false, false, false, false]) rfl ?_
            refine ge_take 8 (TK := []) rfl (by kernel_rfl) (by kernel_rfl) (by kernel_rfl) #[true, true, true, true, true, true, true, true, false, true, true, false, false] (by kernel_rfl) rfl (y_extract (v := .slice _ _ _) rfl rfl) rfl rfl rfl (weak_nil) (listed' := #[true, true, true, true, true, true, true, true, true, false, false, false, false]) rfl ?_
            refine ge_take 9 (TK := []) rfl (by kernel_rfl) (by kernel_rfl) (by kernel_rfl) #[true, true, true, true, true, true, true, true, true, false, true, true, false] (by kernel_rfl) rfl (y_extract (v := .agg #[_, _]) rfl rfl) rfl rfl rfl (weak_nil) (listed' := #[true, true, true, true, true, true, true, true, true, true, false, false, false]) rfl ?_
            refine ge_one 10 (k' := 1) (listed' := #[true, true, true, true, true, true, true, true, true, true, true, false, false]) (by kernel_rfl) rfl rfl rfl ?_
            refine gop_alloc (cs := #[.int .i64 0, .int .i64 0]) Tryd.zeroValue23 rfl rfl (fun b10 hb10 => ?_)
            refine gops_nil ?_
            refine ge_fin (TK := []) rfl (weak_nil) ?_
            refine ge_take 11 (TK := []) rfl (by kernel_rfl) (by kernel_rfl) (by kernel_rfl) #[true, true, true, true, true, true, true, true, true, true, true, false, false] (by kernel_rfl) rfl (y_assign (v := .slice _ _ _) rfl) rfl rfl rfl (weak_nil) (listed' := #[true, true, true, true, true, true, true, true, true, true, true, true, false]) rfl ?_
            refine ge_one 12 (k' := 2) (listed' := #[true, true, true, true, true, true, true, true, true, true, true, true, true]) (by kernel_rfl) rfl rfl rfl ?_
            refine gop_store 6 (v := .agg #[_, _]) (cs' := #[_, _]) rfl rfl Tryd.sizeOf23 rfl rfl rfl rfl (Nat.le_of_ble_eq_true rfl) rfl rfl ?_
            refine gops_nil ?_
            refine ge_fin (TK := []) rfl (weak_nil) ?_
            refine ge_done (by kernel_rfl) ?_
            refine fin_T [box b4 _, rowl _ _ _ _ _ _, box b8 _, box b23 _, rowl _ _ _ _ _ _, rowl _ _ _ _ _ _, box b10 _] rfl ?_
            refine fin_mem _ (weak_toend 5 rfl) ?_
            refine fin_T [box b4 _, rowl _ _ _ _ _ _, box b8 _, box b23 _, rowl _ _ _ _ _ _, box b10 _, rowl _ _ _ _ _ _] rfl ?_
            refine fin_mem _ (weak_toend 5 rfl) ?_
            refine fin_T [box b4 _, rowl _ _ _ _ _ _, box b8 _, box b23 _, rowl _ _ _ _ _ _, rowl _ _ _ _ _ _, box b10 _] rfl ?_
            refine fin_mem _ (weak_toend 4 rfl) ?_
            refine fin_T [box b4 _, rowl _ _ _ _ _ _, box b8 _, box b23 _, rowl _ _ _ _ _ _, box b10 _, rowl _ _ _ _ _ _] rfl ?_
            refine fin_mem _ (weak_toend 3 rfl) ?_
            refine fin_T [box b4 _, rowl _ _ _ _ _ _, box b8 _, rowl _ _ _ _ _ _, box b10 _, rowl _ _ _ _ _ _, box b23 _] rfl ?_
            refine gcut2_end ((A26, c26, b10)) (⟨hc26, hm26⟩) ⟨rfl, rfl, trivial⟩ ⟨rfl, rfl, rfl, rfl, trivial⟩ ⟨_, rfl⟩
          · 
            refine ge_op 10 (k' := 1) (listed' := #[true, true, true, true, true, true, false, false, false, false, true, false, false]) rfl rfl rfl ?_
            refine gop_alloc (cs := #[.int .i64 0, .int .i64 0]) Tryd.zeroValue23 rfl rfl (fun b10 hb10 => ?_)
            refine gops_nil ?_
            refine ge_fin (TK := []) rfl (weak_nil) ?_
            refine ge_one 6 (k' := 1) (listed' := #[true, true, true, true, true, true, true, false, false, false, true, false, false]) (by kernel_rfl) rfl rfl rfl ?_
            refine gop_got (fun v T' => ∃ v1 lo, w.heap.size ≤ lo ∧ v = .tuple #[v1, fv (ofF (rls rs ++ [⟨pat, us⟩]) path)] ∧ T' = [rowl intCells lo 3 1 (v1) (ofV (rls rs ++ [⟨pat, us⟩]) path)]) (e_call (vs := [.slice A24 _ c24, .string _]) Tryd.func18 rfl (by kernel_rfl) rfl) (fun w hM => by have he : ∀ a ∈ (rs ++ [⟨⟨pat, us⟩, B, d⟩]), RuleR w 0 a := (fun a ha => (List.mem_append.1 ha).elim (fun h1 => RuleR.lasts.base (hR.each a h1) hM) (fun h1 => by rw [List.mem_singleton.1 h1]; exact RuleR.lasts.base hL hM)); have hr : RulesR w 0 A24 c24 (rs ++ [⟨⟨pat, us⟩, B, d⟩]) := rulesR_own (l := (rs ++ [⟨⟨pat, us⟩, B, d⟩])) (hM.own 4 rfl) he hb40; have hc := of_any w A24 c24 (rs ++ [⟨⟨pat, us⟩, B, d⟩]) hr path; rw [hpl] at hc; exact hc.mono fun _ _ ⟨v, T1, h1, h2, h3⟩ => ⟨_, T1, h1, ⟨v, _, hM.low.size, rfl, h2⟩, h3⟩) rfl rfl rfl ?_
            rintro _ _ ⟨v26, lo26, hlo26, rfl, rfl⟩
            refine gops_fact (fun w hM => row_form (hM.ok _ (List.mem_of_getElem? (i := 6) rfl))) ?_
            rintro ⟨A26, c26, rfl, hc26, hm26, hn26⟩
            refine gops_mem _ (weak_lower 6 rfl hlo26) ?_
            refine gops_nil ?_
            refine ge_fin (TK := []) rfl (weak_nil) ?_
            refine ge_take 7 (TK := []) rfl (by kernel_rfl) (by kernel_rfl) (by kernel_rfl) #[true, true, true, true, true, true, true, false, false, false, true, false, false] (by kernel_rfl) rfl (y_move (v := .tuple #[.slice A26 _ c26, .agg #[_, _]]) rfl) rfl rfl rfl (weak_nil) (listed' := #[true, true, true, true, true, true, true, true, false, false, true, false, false]) rfl ?_
            refine ge_take 8 (TK := []) rfl (by kernel_rfl) (by kernel_rfl) (by kernel_rfl) #[true, true, true, true, true, true, true, true, false, true, true, false, false] (by kernel_rfl) rfl (y_extract (v := .slice _ _ _) rfl rfl) rfl rfl rfl (weak_nil) (listed' := #[true, true, true, true, true, true, true, true, true, false, true, false, false]) rfl ?_
            refine ge_take 9 (TK := []) rfl (by kernel_rfl) (by kernel_rfl) (by kernel_rfl) #[true, true, true, true, true, true, true, true, true, false, true, true, false] (by kernel_rfl) rfl (y_extract (v := .agg #[_, _]) rfl rfl) rfl rfl rfl (weak_nil) (listed' := #[true, true, true, true, true, true, true, true, true, true, true, false, false]) rfl ?_
            refine ge_take 11 (TK := []) rfl (by kernel_rfl) (by kernel_rfl) (by kernel_rfl) #[true, true, true, true, true, true, true, true, true, true, true, false, false] (by kernel_rfl) rfl (y_assign (v := .slice _ _ _) rfl) rfl rfl rfl (weak_nil) (listed' := #[true, true, true, true, true, true, true, true, true, true, true, true, false]) rfl ?_
            refine ge_one 12 (k' := 2) (listed' := #[true, true, true, true, true, true, true, true, true, true, true, true, true]) (by kernel_rfl) rfl rfl rfl ?_
            refine gop_store 5 (v := .agg #[_, _]) (cs' := #[_, _]) rfl rfl Tryd.sizeOf23 rfl rfl rfl rfl (Nat.le_of_ble_eq_true rfl) rfl rfl ?_
            refine gops_nil ?_
            refine ge_fin (TK := []) rfl (weak_nil) ?_
            refine ge_done (by kernel_rfl) ?_
            refine fin_T [box b4 _, rowl _ _ _ _ _ _, box b8 _, box b23 _, rowl _ _ _ _ _ _, box b10 _, rowl _ _ _ _ _ _] rfl ?_
            refine fin_mem _ (weak_toend 6 rfl) ?_
            refine fin_T [box b4 _, rowl _ _ _ _ _ _, box b8 _, box b23 _, rowl _ _ _ _ _ _, box b10 _, rowl _ _ _ _ _ _] rfl ?_
            refine fin_mem _ (weak_toend 5 rfl) ?_
            refine fin_T [box b4 _, rowl _ _ _ _ _ _, box b8 _, box b23 _, rowl _ _ _ _ _ _, rowl _ _ _ _ _ _, box b10 _] rfl ?_
            refine fin_mem _ (weak_toend 4 rfl) ?_
            refine fin_T [box b4 _, rowl _ _ _ _ _ _, box b8 _, box b23 _, rowl _ _ _ _ _ _, box b10 _, rowl _ _ _ _ _ _] rfl ?_
            refine fin_mem _ (weak_toend 3 rfl) ?_
            refine fin_T [box b4 _, rowl _ _ _ _ _ _, box b8 _, rowl _ _ _ _ _ _, box b10 _, rowl _ _ _ _ _ _, box b23 _] rfl ?_
            refine gcut2_end ((A26, c26, b10)) (⟨hc26, hm26⟩) ⟨rfl, rfl, trivial⟩ ⟨rfl, rfl, rfl, rfl, trivial⟩ ⟨_, rfl⟩
        · 
          refine ge_op 10 (k' := 0) (listed' := #[true, true, true, true, false, true, false, false, false, false, true, false, false]) rfl rfl rfl ?_
          refine gop_alloc (cs := #[.int .i64 0, .int .i64 0]) Tryd.zeroValue23 rfl rfl (fun b10 hb10 => ?_)
          refine gops_nil ?_
          refine ge_fin (TK := [box b4 _, rowl _ _ _ _ _ _, box b8 _]) rfl (weak_take (T' := [box b4 _, rowl _ _ _ _ _ _, box b8 _]) rfl) ?_
          refine ge_one 4 (k' := 1) (listed' := #[true, true, true, true, true, true, false, false, false, false, true, false, false]) (by kernel_rfl) rfl rfl rfl ?_
          refine gop_append 4 (f := ruleCells) (l2 := [⟨⟨pat, us⟩, B, d⟩]) Tryd.underlying29 el32 wide_rule (v := .slice A21 _ c21) rfl rfl rfl rfl (fun h => by cases h) (by simp [maxLen]; omega) (by simp; omega) (src_box 3 rfl rfl) rfl (fun v24 => ?_)
          refine gops_fact (fun w hM => own_form (hM.own 4 rfl)) ?_
          rintro ⟨A24, c24, rfl, hc24, hm24⟩
          refine gops_nil ?_
          refine ge_fin (TK := []) rfl (weak_nil) ?_
          refine ge_one 6 (k' := 1) (listed' := #[true, true, true, true, true, true, true, false, false, false, true, false, false]) (by kernel_rfl) rfl rfl rfl ?_
          refine gop_got (fun v T' => ∃ v1 lo, w.heap.size ≤ lo ∧ v = .tuple #[v1, fv (ofF (rls rs ++ [⟨pat, us⟩]) path)] ∧ T' = [rowl intCells lo 3 1 (v1) (ofV (rls rs ++ [⟨pat, us⟩]) path)]) (e_call (vs := [.slice A24 _ c24, .string _]) Tryd.func18 rfl (by kernel_rfl) rfl) (fun w hM => by have he : ∀ a ∈ (rs ++ [⟨⟨pat, us⟩, B, d⟩]), RuleR w 0 a := (fun a ha => (List.mem_append.1 ha).elim (fun h1 => RuleR.lasts.base (hR.each a h1) hM) (fun h1 => by rw [List.mem_singleton.1 h1]; exact RuleR.lasts.base hL hM)); have hr : RulesR w 0 A24 c24 (rs ++ [⟨⟨pat, us⟩, B, d⟩]) := rulesR_own (l := (rs ++ [⟨⟨pat, us⟩, B, d⟩])) (hM.own 4 rfl) he hb40; have hc := of_any w A24 c24 (rs ++ [⟨⟨pat, us⟩, B, d⟩]) hr path; rw [hpl] at hc; exact hc.mono fun _ _ ⟨v, T1, h1, h2, h3⟩ => ⟨_, T1, h1, ⟨v, _, hM.low.size, rfl, h2⟩, h3⟩) rfl rfl rfl ?_
          rintro _ _ ⟨v26, lo26, hlo26, rfl, rfl⟩
          refine gops_fact (fun w hM => row_form (hM.ok _ (List.mem_of_getElem? (i := 6) rfl))) ?_
          rintro ⟨A26, c26, rfl, hc26, hm26, hn26⟩
          refine gops_mem _ (weak_lower 6 rfl hlo26) ?_
          refine gops_nil ?_
          refine ge_fin (TK := []) rfl (weak_nil) ?_
          refine ge_take 7 (TK := []) rfl (by kernel_rfl) (by kernel_rfl) (by kernel_rfl) #[true, true, true, true, true, true, true, false, false, false, true, false, false] (by kernel_rfl) rfl (y_move (v := .tuple #[.slice A26 _ c26, .agg #[_, _]]) rfl) rfl rfl rfl (weak_nil) (listed' := #[true, true, true, true, true, true, true, true, false, false, true, false, false]) rfl ?_
          refine ge_take 8 (TK := []) rfl (by kernel_rfl) (by kernel_rfl) (by kernel_rfl) #[true, true, true, true, true, true, true, true, false, true, true, false, false] (by kernel_rfl) rfl (y_extract (v := .slice _ _ _) rfl rfl) rfl rfl rfl (weak_nil) (listed' := #[true, true, true, true, true, true, true, true, true, false, true, false, false]) rfl ?_
          refine ge_take 9 (TK := []) rfl (by kernel_rfl) (by kernel_rfl) (by kernel_rfl) #[true, true, true, true, true, true, true, true, true, false, true, true, false] (by kernel_rfl) rfl (y_extract (v := .agg #[_, _]) rfl rfl) rfl rfl rfl (weak_nil) (listed' := #[true, true, true, true, true, true, true, true, true, true, true, false, false]) rfl ?_
          refine ge_take 11 (TK := []) rfl (by kernel_rfl) (by kernel_rfl) (by kernel_rfl) #[true, true, true, true, true, true, true, true, true, true, true, false, false] (by kernel_rfl) rfl (y_assign (v := .slice _ _ _) rfl) rfl rfl rfl (weak_nil) (listed' := #[true, true, true, true, true, true, true, true, true, true, true, true, false]) rfl ?_
          refine ge_one 12 (k' := 2) (listed' := #[true, true, true, true, true, true, true, true, true, true, true, true, true]) (by kernel_rfl) rfl rfl rfl ?_
          refine gop_store 5 (v := .agg #[_, _]) (cs' := #[_, _]) rfl rfl Tryd.sizeOf23 rfl rfl rfl rfl (Nat.le_of_ble_eq_true rfl) rfl rfl ?_
          refine gops_nil ?_
          refine ge_fin (TK := []) rfl (weak_nil) ?_
          refine ge_done (by kernel_rfl) ?_
          refine fin_T [box b4 _, rowl _ _ _ _ _ _, box b8 _, box b23 _, rowl _ _ _ _ _ _, box b10 _, rowl _ _ _ _ _ _] rfl ?_
          refine fin_mem _ (weak_toend 6 rfl) ?_
          refine fin_T [box b4 _, rowl _ _ _ _ _ _, box b8 _, box b23 _, rowl _ _ _ _ _ _, box b10 _, rowl _ _ _ _ _ _] rfl ?_
          refine fin_mem _ (weak_toend 5 rfl) ?_
          refine fin_T [box b4 _, rowl _ _ _ _ _ _, box b8 _, box b23 _, rowl _ _ _ _ _ _, rowl _ _ _ _ _ _, box b10 _] rfl ?_
          refine fin_mem _ (weak_toend 4 rfl) ?_
          refine fin_T [box b4 _, rowl _ _ _ _ _ _, box b8 _, box b23 _, rowl _ _ _ _ _ _, box b10 _, rowl _ _ _ _ _ _] rfl ?_
          refine fin_mem _ (weak_toend 3 rfl) ?_
          refine fin_T [box b4 _, rowl _ _ _ _ _ _, box b8 _, rowl _ _ _ _ _ _, box b10 _, rowl _ _ _ _ _ _, box b23 _] rfl ?_
          refine gcut2_end ((A26, c26, b10)) (⟨hc26, hm26⟩) ⟨rfl, rfl, trivial⟩ ⟨rfl, rfl, rfl, rfl, trivial⟩ ⟨_, rfl⟩
      · 
        refine ge_op 10 (k' := 0) (listed' := #[true, false, true, true, false, true, false, false, false, false, true, false, false]) rfl rfl rfl ?_
        refine gop_alloc (cs := #[.int .i64 0, .int .i64 0]) Tryd.zeroValue23 rfl rfl (fun b10 hb10 => ?_)
        refine gops_nil ?_
        refine ge_fin (TK := [box b4 _, rowl _ _ _ _ _ _, box b8 _]) rfl (weak_take (T' := [box b4 _, rowl _ _ _ _ _ _, box b8 _]) rfl) ?_
        refine ge_one 1 (k' := 0) (listed' := #[true, true, true, true, false, true, false, false, false, false, true, false, false]) (by kernel_rfl) rfl rfl rfl ?_
        refine gops_nilrow ruleCells 32 2 ?_
        refine gop_append 5 (f := ruleCells) (l2 := rs) Tryd.underlying29 el32 wide_rule (v := .slice none 0 0) rfl rfl rfl rfl hA0 (by simp [maxLen]; omega) (by simp; omega) (fun w hM => (hR.rd.base hM).src (fun _ => rfl)) rfl (fun v21 => ?_)
        refine gops_fact (fun w hM => own_form (hM.own 5 rfl)) ?_
        rintro ⟨A21, c21, rfl, hc21, hm21⟩
        refine gops_nil ?_
        refine ge_fin (TK := [box b4 _, rowl _ _ _ _ _ _, box b8 _]) rfl (weak_take (T' := [box b4 _, rowl _ _ _ _ _ _, box b8 _]) rfl) ?_
        refine ge_one 4 (k' := 1) (listed' := #[true, true, true, true, true, true, false, false, false, false, true, false, false]) (by kernel_rfl) rfl rfl rfl ?_
        refine gop_append 5 (f := ruleCells) (l2 := [⟨⟨pat, us⟩, B, d⟩]) Tryd.underlying29 el32 wide_rule (v := .slice A21 _ c21) rfl rfl rfl rfl (fun h => by cases h) (by simp [maxLen]; omega) (by simp; omega) (src_box 3 rfl rfl) rfl (fun v24 => ?_)
        refine gops_fact (fun w hM => own_form (hM.own 5 rfl)) ?_
        rintro ⟨A24, c24, rfl, hc24, hm24⟩
        refine gops_nil ?_
        refine ge_fin (TK := []) rfl (weak_nil) ?_
        refine ge_one 6 (k' := 1) (listed' := #[true, true, true, true, true, true, true, false, false, false, true, false, false]) (by kernel_rfl) rfl rfl rfl ?_
        refine gop_got (fun v T' => ∃ v1 lo, w.heap.size ≤ lo ∧ v = .tuple #[v1, fv (ofF (rls rs ++ [⟨pat, us⟩]) path)] ∧ T' = [rowl intCells lo 3 1 (v1) (ofV (rls rs ++ [⟨pat, us⟩]) path)]) (e_call (vs := [.slice A24 _ c24, .string _]) Tryd.func18 rfl (by kernel_rfl) rfl) (fun w hM => by have he : ∀ a ∈ (rs ++ [⟨⟨pat, us⟩, B, d⟩]), RuleR w 0 a := (fun a ha => (List.mem_append.1 ha).elim (fun h1 => RuleR.lasts.base (hR.each a h1) hM) (fun h1 => by rw [List.mem_singleton.1 h1]; exact RuleR.lasts.base hL hM)); have hr : RulesR w 0 A24 c24 (rs ++ [⟨⟨pat, us⟩, B, d⟩]) := rulesR_own (l := (rs ++ [⟨⟨pat, us⟩, B, d⟩])) (hM.own 5 rfl) he hb40; have hc := of_any w A24 c24 (rs ++ [⟨⟨pat, us⟩, B, d⟩]) hr path; rw [hpl] at hc; exact hc.mono fun _ _ ⟨v, T1, h1, h2, h3⟩ => ⟨_, T1, h1, ⟨v, _, hM.low.size, rfl, h2⟩, h3⟩) rfl rfl rfl ?_
        rintro _ _ ⟨v26, lo26, hlo26, rfl, rfl⟩
        refine gops_fact (fun w hM => row_form (hM.ok _ (List.mem_of_getElem? (i := 6) rfl))) ?_
        rintro ⟨A26, c26, rfl, hc26, hm26, hn26⟩
        refine gops_mem _ (weak_lower 6 rfl hlo26) ?_
        refine gops_nil ?_
        refine ge_fin (TK := []) rfl (weak_nil) ?_
        refine ge_take 7 (TK := []) rfl (by kernel_rfl) (by kernel_rfl) (by kernel_rfl) #[true, true, true, true, true, true, true, false, false, false, true, false, false] (by kernel_rfl) rfl (y_move (v := .tuple #[.slice A26 _ c26, .agg #[_, _]]) rfl) rfl rfl rfl (weak_nil) (listed' := #[true, true, true, true, true, true, true, true, false, false, true, false, false]) rfl ?_
        refine ge_take 8 (TK := []) rfl (by kernel_rfl) (by kernel_rfl) (by kernel_rfl) #[true, true, true, true, true, true, true, true, false, true, true, false, false] (by kernel_rfl) rfl (y_extract (v := .slice _ _ _) rfl rfl) rfl rfl rfl (weak_nil) (listed' := #[true, true, true, true, true, true, true, true, true, false, true, false, false]) rfl ?_
        refine ge_take 9 (TK := []) rfl (by kernel_rfl) (by kernel_rfl) (by kernel_rfl) #[true, true, true, true, true, true, true, true, true, false, true, true, false] (by kernel_rfl) rfl (y_extract (v := .agg #[_, _]) rfl rfl) rfl rfl rfl (weak_nil) (listed' := #[true, true, true, true, true, true, true, true, true, true, true, false, false]) rfl ?_
        refine ge_take 11 (TK := []) rfl (by kernel_rfl) (by kernel_rfl) (by kernel_rfl) #[true, true, true, true, true, true, true, true, true, true, true, false, false] (by kernel_rfl) rfl (y_assign (v := .slice _ _ _) rfl) rfl rfl rfl (weak_nil) (listed' := #[true, true, true, true, true, true, true, true, true, true, true, true, false]) rfl ?_
        refine ge_one 12 (k' := 2) (listed' := #[true, true, true, true, true, true, true, true, true, true, true, true, true]) (by kernel_rfl) rfl rfl rfl ?_
        refine gop_store 4 (v := .agg #[_, _]) (cs' := #[_, _]) rfl rfl Tryd.sizeOf23 rfl rfl rfl rfl (Nat.le_of_ble_eq_true rfl) rfl rfl ?_
        refine gops_nil ?_
        refine ge_fin (TK := []) rfl (weak_nil) ?_
        refine ge_done (by kernel_rfl) ?_
        refine fin_T [box b4 _, rowl _ _ _ _ _ _, box b8 _, box b23 _, box b10 _, rowl _ _ _ _ _ _, rowl _ _ _ _ _ _] rfl ?_
        refine fin_mem _ (weak_toend 6 rfl) ?_
        refine fin_T [box b4 _, rowl _ _ _ _ _ _, box b8 _, box b23 _, box b10 _, rowl _ _ _ _ _ _, rowl _ _ _ _ _ _] rfl ?_
        refine fin_mem _ (weak_toend 4 rfl) ?_
        refine fin_T [box b4 _, rowl _ _ _ _ _ _, box b8 _, box b23 _, rowl _ _ _ _ _ _, rowl _ _ _ _ _ _, box b10 _] rfl ?_
        refine fin_mem _ (weak_toend 4 rfl) ?_
        refine fin_T [box b4 _, rowl _ _ _ _ _ _, box b8 _, box b23 _, rowl _ _ _ _ _ _, box b10 _, rowl _ _ _ _ _ _] rfl ?_
        refine fin_mem _ (weak_toend 3 rfl) ?_
        refine fin_T [box b4 _, rowl _ _ _ _ _ _, box b8 _, rowl _ _ _ _ _ _, box b10 _, rowl _ _ _ _ _ _, box b23 _] rfl ?_
        refine gcut2_end ((A26, c26, b10)) (⟨hc26, hm26⟩) ⟨rfl, rfl, trivial⟩ ⟨rfl, rfl, rfl, rfl, trivial⟩ ⟨_, rfl⟩
    · 
      refine ge_op 10 (k' := 0) (listed' := #[true, false, true, false, false, true, false, false, false, false, true, false, false]) rfl rfl rfl ?_
      refine gop_alloc (cs := #[.int .i64 0, .int .i64 0]) Tryd.zeroValue23 rfl rfl (fun b10 hb10 => ?_)
      refine gops_nil ?_
      refine ge_fin (TK := [box b4 _, rowl _ _ _ _ _ _, box b8 _]) rfl (weak_take (T' := [box b4 _, rowl _ _ _ _ _ _, box b8 _]) rfl) ?_
      refine ge_two 1 3 (by kernel_rfl) ?_ ?_
      · 
        refine ge_op 1 (k' := 0) (listed' := #[true, true, true, false, false, true, false, false, false, false, true, false, false]) rfl rfl rfl ?_
        refine gops_nilrow ruleCells 32 2 ?_
        refine gop_append 4 (f := ruleCells) (l2 := rs) Tryd.underlying29 el32 wide_rule (v := .slice none 0 0) rfl rfl rfl rfl hA0 (by simp [maxLen]; omega) (by simp; omega) (fun w hM => (hR.rd.base hM).src (fun _ => rfl)) rfl (fun v21 => ?_)
        refine gops_fact (fun w hM => own_form (hM.own 4 rfl)) ?_
        rintro ⟨A21, c21, rfl, hc21, hm21⟩
        refine gops_nil ?_
        refine ge_fin (TK := [box b4 _, rowl _ _ _ _ _ _, box b8 _]) rfl (weak_take (T' := [box b4 _, rowl _ _ _ _ _ _, box b8 _]) rfl) ?_
        refine ge_one 3 (k' := 0) (listed' := #[true, true, true, true, false, true, false, false, false, false, true, false, false]) (by kernel_rfl) rfl rfl rfl ?_
        refine gop_lit (vs := [.agg #[_, _]]) (cells := #[_, _]) Tryd.underlying29 Tryd.sizeOf32 Tryd.zeroValue32 rfl (by decide) (by decide) rfl rfl rfl rfl (fun b23 hb23 => ?_)
        refine gops_nil ?_
        refine ge_fin (TK := [box b4 _, rowl _ _ _ _ _ _, box b8 _]) rfl (weak_take (T' := [box b4 _, rowl _ _ _ _ _ _, box b8 _]) rfl) ?_
        refine ge_one 4 (k' := 1) (listed' := #[true, true, true, true, true, true, false, false, false, false, true, false, false]) (by kernel_rfl) rfl rfl rfl ?_
        refine gop_append 4 (f := ruleCells) (l2 := [⟨⟨pat, us⟩, B, d⟩]) Tryd.underlying29 el32 wide_rule (v := .slice A21 _ c21) rfl rfl rfl rfl (fun h => by cases h) (by simp [maxLen]; omega) (by simp; omega) (src_box 5 rfl rfl) rfl (fun v24 => ?_)
        refine gops_fact (fun w hM => own_form (hM.own 4 rfl)) ?_
        rintro ⟨A24, c24, rfl, hc24, hm24⟩
        refine gops_nil ?_
        refine ge_fin (TK := []) rfl (weak_nil) ?_
        refine ge_one 6 (k' := 1) (listed' := #[true, true, true, true, true, true, true, false, false, false, true, false, false]) (by kernel_rfl) rfl rfl rfl ?_
        refine gop_got (fun v T' => ∃ v1 lo, w.heap.size ≤ lo ∧ v = .tuple #[v1, fv (ofF (rls rs ++ [⟨pat, us⟩]) path)] ∧ T' = [rowl intCells lo 3 1 (v1) (ofV (rls rs ++ [⟨pat, us⟩]) path)]) (e_call (vs := [.slice A24 _ c24, .string _]) Tryd.func18 rfl (by kernel_rfl) rfl) (fun w hM => by have he : ∀ a ∈ (rs ++ [⟨⟨pat, us⟩, B, d⟩]), RuleR w 0 a := (fun a ha => (List.mem_append.1 ha).elim (fun h1 => RuleR.lasts.base (hR.each a h1) hM) (fun h1 => by rw [List.mem_singleton.1 h1]; exact RuleR.lasts.base hL hM)); have hr : RulesR w 0 A24 c24 (rs ++ [⟨⟨pat, us⟩, B, d⟩]) := rulesR_own (l := (rs ++ [⟨⟨pat, us⟩, B, d⟩])) (hM.own 4 rfl) he hb40; have hc := of_any w A24 c24 (rs ++ [⟨⟨pat, us⟩, B, d⟩]) hr path; rw [hpl] at hc; exact hc.mono fun _ _ ⟨v, T1, h1, h2, h3⟩ => ⟨_, T1, h1, ⟨v, _, hM.low.size, rfl, h2⟩, h3⟩) rfl rfl rfl ?_
        rintro _ _ ⟨v26, lo26, hlo26, rfl, rfl⟩
        refine gops_fact (fun w hM => row_form (hM.ok _ (List.mem_of_getElem? (i := 6) rfl))) ?_
        rintro ⟨A26, c26, rfl, hc26, hm26, hn26⟩
        refine gops_mem _ (weak_lower 6 rfl hlo26) ?_
        refine gops_nil ?_
        refine ge_fin (TK := []) rfl (weak_nil) ?_
        refine ge_take 7 (TK := []) rfl (by kernel_rfl) (by kernel_rfl) (by kernel_rfl) #[true, true, true, true, true, true, true, false, false, false, true, false, false] (by kernel_rfl) rfl (y_move (v := .tuple #[.slice A26 _ c26, .agg #[_, _]]) rfl) rfl rfl rfl (weak_nil) (listed' := #[true, true, true, true, true, true, true, true, false, false, true, false, false]) rfl ?_
        refine ge_take 8 (TK := []) rfl (by kernel_rfl) (by kernel_rfl) (by kernel_rfl) #[true, true, true, true, true, true, true, true, false, true, true, false, false] (by kernel_rfl) rfl (y_extract (v := .slice _ _ _) rfl rfl) rfl rfl rfl (weak_nil) (listed' := #[true, true, true, true, true, true, true, true, true, false, true, false, false]) rfl ?_
        refine ge_take 9 (TK := []) rfl (by kernel_rfl) (by kernel_rfl) (by kernel_rfl) #[true, true, true, true, true, true, true, true, true, false, true, true, false] (by kernel_rfl) rfl (y_extract (v := .agg #[_, _]) rfl rfl) rfl rfl rfl (weak_nil) (listed' := #[true, true, true, true, true, true, true, true, true, true, true, false, false]) rfl ?_
        refine ge_take 11 (TK := []) rfl (by kernel_rfl) (by kernel_rfl) (by kernel_rfl) #[true, true, true, true, true, true, true, true, true, true, true, false, false] (by kernel_rfl) rfl (y_assign (v := .slice _ _ _) rfl) rfl rfl rfl (weak_nil) (listed' := #[true, true, true, true, true, true, true, true, true, true, true, true, false]) rfl ?_
        refine ge_one 12 (k' := 2) (listed' := #[true, true, true, true, true, true, true, true, true, true, true, true, true]) (by kernel_rfl) rfl rfl rfl ?_
        refine gop_store 3 (v := .agg #[_, _]) (cs' := #[_, _]) rfl rfl Tryd.sizeOf23 rfl rfl rfl rfl (Nat.le_of_ble_eq_true rfl) rfl rfl ?_
        refine gops_nil ?_
        refine ge_fin (TK := []) rfl (weak_nil) ?_
        refine ge_done (by kernel_rfl) ?_
        refine fin_T [box b4 _, rowl _ _ _ _ _ _, box b8 _, box b10 _, rowl _ _ _ _ _ _, box b23 _, rowl _ _ _ _ _ _] rfl ?_
        refine fin_mem _ (weak_toend 6 rfl) ?_
        refine fin_T [box b4 _, rowl _ _ _ _ _ _, box b8 _, box b10 _, rowl _ _ _ _ _ _, box b23 _, rowl _ _ _ _ _ _] rfl ?_
        refine fin_mem _ (weak_toend 3 rfl) ?_
        refine fin_T [box b4 _, rowl _ _ _ _ _ _, box b8 _, rowl _ _ _ _ _ _, box b23 _, rowl _ _ _ _ _ _, box b10 _] rfl ?_
        refine fin_mem _ (weak_toend 3 rfl) ?_
        refine fin_T [box b4 _, rowl _ _ _ _ _ _, box b8 _, box b23 _, rowl _ _ _ _ _ _, box b10 _, rowl _ _ _ _ _ _] rfl ?_
        refine fin_mem _ (weak_toend 3 rfl) ?_
        refine fin_T [box b4 _, rowl _ _ _ _ _ _, box b8 _, rowl _ _ _ _ _ _, box b10 _, rowl _ _ _ _ _ _, box b23 _] rfl ?_
        refine gcut2_end ((A26, c26, b10)) (⟨hc26, hm26⟩) ⟨rfl, rfl, trivial⟩ ⟨rfl, rfl, rfl, rfl, trivial⟩ ⟨_, rfl⟩
      · 
        refine ge_op 3 (k' := 0) (listed' := #[true, false, true, true, false, true, false, false, false, false, true, false, false]) rfl rfl rfl ?_
        refine gop_lit (vs := [.agg #[_, _]]) (cells := #[_, _]) Tryd.underlying29 Tryd.sizeOf32 Tryd.zeroValue32 rfl (by decide) (by decide) rfl rfl rfl rfl (fun b23 hb23 => ?_)
        refine gops_nil ?_
        refine ge_fin (TK := [box b4 _, rowl _ _ _ _ _ _, box b8 _]) rfl (weak_take (T' := [box b4 _, rowl _ _ _ _ _ _, box b8 _]) rfl) ?_
        refine ge_one 1 (k' := 0) (listed' := #[true, true, true, true, false, true, false, false, false, false, true, false, false]) (by kernel_rfl) rfl rfl rfl ?_
        refine gops_nilrow ruleCells 32 2 ?_
        refine gop_append 5 (f := ruleCells) (l2 := rs) Tryd.underlying29 el32 wide_rule (v := .slice none 0 0) rfl rfl rfl rfl hA0 (by simp [maxLen]; omega) (by simp; omega) (fun w hM => (hR.rd.base hM).src (fun _ => rfl)) rfl (fun v21 => ?_)
        refine gops_fact (fun w hM => own_form (hM.own 5 rfl)) ?_
        rintro ⟨A21, c21, rfl, hc21, hm21⟩
        refine gops_nil ?_
        refine ge_fin (TK := [box b4 _, rowl _ _ _ _ _ _, box b8 _]) rfl (weak_take (T' := [box b4 _, rowl _ _ _ _ _ _, box b8 _]) rfl) ?_
        refine ge_one 4 (k' := 1) (listed' := #[true, true, true, true, true, true, false, false, false, false, true, false, false]) (by kernel_rfl) rfl rfl rfl ?_
        refine gop_append 5 (f := ruleCells) (l2 := [⟨⟨pat, us⟩, B, d⟩]) Tryd.underlying29 el32 wide_rule (v := .slice A21 _ c21) rfl rfl rfl rfl (fun h => by cases h) (by simp [maxLen]; omega) (by simp; omega) (src_box 4 rfl rfl) rfl (fun v24 => ?_)
        refine gops_fact (fun w hM => own_form (hM.own 5 rfl)) ?_
        rintro ⟨A24, c24, rfl, hc24, hm24⟩
        refine gops_nil ?_
        refine ge_fin (TK := []) rfl (weak_nil) ?_
        refine ge_one 6 (k' := 1) (listed' := #[true, true, true, true, true, true, true, false, false, false, true, false, false]) (by kernel_rfl) rfl rfl rfl ?_
        refine gop_got (fun v T' => ∃ v1 lo, w.heap.size ≤ lo ∧ v = .tuple #[v1, fv (ofF (rls rs ++ [⟨pat, us⟩]) path)] ∧ T' = [rowl intCells lo 3 1 (v1) (ofV (rls rs ++ [⟨pat, us⟩]) path)]) (e_call (vs := [.slice A24 _ c24, .string _]) Tryd.func18 rfl (by kernel_rfl) rfl) (fun w hM => by have he : ∀ a ∈ (rs ++ [⟨⟨pat, us⟩, B, d⟩]), RuleR w 0 a := (fun a ha => (List.mem_append.1 ha).elim (fun h1 => RuleR.lasts.base (hR.each a h1) hM) (fun h1 => by rw [List.mem_singleton.1 h1]; exact RuleR.lasts.base hL hM)); have hr : RulesR w 0 A24 c24 (rs ++ [⟨⟨pat, us⟩, B, d⟩]) := rulesR_own (l := (rs ++ [⟨⟨pat, us⟩, B, d⟩])) (hM.own 5 rfl) he hb40; have hc := of_any w A24 c24 (rs ++ [⟨⟨pat, us⟩, B, d⟩]) hr path; rw [hpl] at hc; exact hc.mono fun _ _ ⟨v, T1, h1, h2, h3⟩ => ⟨_, T1, h1, ⟨v, _, hM.low.size, rfl, h2⟩, h3⟩) rfl rfl rfl ?_
        rintro _ _ ⟨v26, lo26, hlo26, rfl, rfl⟩
        refine gops_fact (fun w hM => row_form (hM.ok _ (List.mem_of_getElem? (i := 6) rfl))) ?_
        rintro ⟨A26, c26, rfl, hc26, hm26, hn26⟩
        refine gops_mem _ (weak_lower 6 rfl hlo26) ?_
        refine gops_nil ?_
        refine ge_fin (TK := []) rfl (weak_nil) ?_
        refine ge_take 7 (TK := []) rfl (by kernel_rfl) (by kernel_rfl) (by kernel_rfl) #[true, true, true, true, true, true, true, false, false, false, true, false, false] (by kernel_rfl) rfl (y_move (v := .tuple #[.slice A26 _ c26, .agg #[_, _]]) rfl) rfl rfl rfl (weak_nil) (listed' := #[true, true, true, true, true, true, true, true, false, false, true, false, false]) rfl ?_
        refine ge_take 8 (TK := []) rfl (by kernel_rfl) (by kernel_rfl) (by kernel_rfl) #[true, true, true, true, true, true, true, true, false, true, true, false, false] (by kernel_rfl) rfl (y_extract (v := .slice _ _ _) rfl rfl) rfl rfl rfl (weak_nil) (listed' := #[true, true, true, true, true, true, true, true, true, false, true, false, false]) rfl ?_
        refine ge_take 9 (TK := []) rfl (by kernel_rfl) (by kernel_rfl) (by kernel_rfl) #[true, true, true, true, true, true, true, true, true, false, true, true, false] (by kernel_rfl) rfl (y_extract (v := .agg #[_, _]) rfl rfl) rfl rfl rfl (weak_nil) (listed' := #[true, true, true, true, true, true, true, true, true, true, true, false, false]) rfl ?_
        refine ge_take 11 (TK := []) rfl (by kernel_rfl) (by kernel_rfl) (by kernel_rfl) #[true, true, true, true, true, true, true, true, true, true, true, false, false] (by kernel_rfl) rfl (y_assign (v := .slice _ _ _) rfl) rfl rfl rfl (weak_nil) (listed' := #[true, true, true, true, true, true, true, true, true, true, true, true, false]) rfl ?_
        refine ge_one 12 (k' := 2) (listed' := #[true, true, true, true, true, true, true, true, true, true, true, true, true]) (by kernel_rfl) rfl rfl rfl ?_
        refine gop_store 3 (v := .agg #[_, _]) (cs' := #[_, _]) rfl rfl Tryd.sizeOf23 rfl rfl rfl rfl (Nat.le_of_ble_eq_true rfl) rfl rfl ?_
        refine gops_nil ?_
        refine ge_fin (TK := []) rfl (weak_nil) ?_
        refine ge_done (by kernel_rfl) ?_
        refine fin_T [box b4 _, rowl _ _ _ _ _ _, box b8 _, box b10 _, box b23 _, rowl _ _ _ _ _ _, rowl _ _ _ _ _ _] rfl ?_
        refine fin_mem _ (weak_toend 6 rfl) ?_
        refine fin_T [box b4 _, rowl _ _ _ _ _ _, box b8 _, box b10 _, box b23 _, rowl _ _ _ _ _ _, rowl _ _ _ _ _ _] rfl ?_
        refine fin_mem _ (weak_toend 3 rfl) ?_
        refine fin_T [box b4 _, rowl _ _ _ _ _ _, box b8 _, box b23 _, rowl _ _ _ _ _ _, rowl _ _ _ _ _ _, box b10 _] rfl ?_
        refine fin_mem _ (weak_toend 4 rfl) ?_
        refine fin_T [box b4 _, rowl _ _ _ _ _ _, box b8 _, box b23 _, rowl _ _ _ _ _ _, box b10 _, rowl _ _ _ _ _ _] rfl ?_
        refine fin_mem _ (weak_toend 3 rfl) ?_
        refine fin_T [box b4 _, rowl _ _ _ _ _ _, box b8 _, rowl _ _ _ _ _ _, box b10 _, rowl _ _ _ _ _ _, box b23 _] rfl ?_
        refine gcut2_end ((A26, c26, b10)) (⟨hc26, hm26⟩) ⟨rfl, rfl, trivial⟩ ⟨rfl, rfl, rfl, rfl, trivial⟩ ⟨_, rfl⟩
  ·
    rintro ⟨A26, c26, b10⟩ hcut σ
    refine hN3 _ _ ?_
    obtain ⟨hc26, hm26⟩ := hcut
    refine gseq fun N4 hN4 => ?_
    refine greg ?_
    refine gop (y_fieldAddr_box fa32_0 rfl) rfl rfl rfl ?_
    refine gop (y_load Tryd.isAgg9 rfl (cell_box 0 rfl rfl)) rfl rfl rfl ?_
    refine gop (y_move (v := .string _) rfl) rfl rfl rfl ?_
    refine gop_pure (e_call (vs := [.string _, .string _]) Tryd.func14 rfl (by kernel_rfl) rfl) (fun w hM => match_any w _ _) rfl rfl rfl ?_
    refine gop (y_move (v := .tuple #[.bool _, .agg #[_, _]]) rfl) rfl rfl rfl ?_
    refine gop (y_extract (v := .bool _) rfl rfl) rfl rfl rfl ?_
    refine gop (y_extract (v := .agg #[_, _]) rfl rfl) rfl rfl rfl ?_
    refine gop_alloc (cs := #[.int .i64 0, .int .i64 0]) Tryd.zeroValue23 rfl rfl (fun b12 hb12 => ?_)
    refine gop (y_assign (v := .bool _) rfl) rfl rfl rfl ?_
    refine gop_store 5 (v := .agg #[_, _]) (cs' := #[_, _]) rfl rfl Tryd.sizeOf23 rfl rfl rfl rfl (Nat.le_of_ble_eq_true rfl) rfl rfl ?_
    refine gops_nil ?_
    refine hN4 _ _ ?_
    refine gT [box b4 _, rowl _ _ _ _ _ _, box b8 _, rowl _ _ _ _ _ _, box b10 _, box b12 _] rfl ?_
    refine gfrom [(4, .pointer _), (7, .slice _ _ _), (8, .pointer _), (9, .slice A26 _ c26), (10, .pointer (some ⟨b10, 0, none⟩)), (11, .bool _), (12, .pointer _)] ⟨rfl, rfl, rfl, rfl, rfl, rfl, rfl, trivial⟩ fun σ => ?_
    refine gseq fun N5 hN5 => ?_
    refine gseq fun N6 hN6 => ?_
    refine greg ?_
    refine gop_pure (e_call (vs := []) Tryd.func19 rfl (by kernel_rfl) rfl) (fun w hM => ownersExample_any w) rfl rfl rfl ?_
    refine gop (y_not rfl) rfl rfl rfl ?_
    refine gops_nil ?_
    refine hN6 _ _ ?_
    refine gfrom [(4, .pointer _), (7, .slice _ _ _), (8, .pointer _), (9, .slice A26 _ c26), (10, .pointer (some ⟨b10, 0, none⟩)), (11, .bool _), (12, .pointer _), (37, .bool _)] ⟨rfl, rfl, rfl, rfl, rfl, rfl, rfl, rfl, trivial⟩ fun σ => ?_
    refine gcond (b := _) rfl (fun hc37 => ?_) (fun hc37 => ?_)
    · 
       exact absurd hc37 (by decide)
    · 
      replace hc37 := not_f hc37
      refine gskip ?_
      refine hN5 _ _ ?_
      refine gfrom [(4, .pointer _), (7, .slice _ _ _), (8, .pointer _), (9, .slice A26 _ c26), (10, .pointer (some ⟨b10, 0, none⟩)), (11, .bool _), (12, .pointer _)] ⟨rfl, rfl, rfl, rfl, rfl, rfl, rfl, trivial⟩ fun σ => ?_
      refine gseq fun N7 hN7 => ?_
      refine gseq fun N8 hN8 => ?_
      refine greg ?_
      refine gop (y_fieldAddr_box fa23_0 rfl) rfl rfl rfl ?_
      refine gop (y_load Tryd.isAgg3 rfl (cell_box 2 rfl rfl)) rfl rfl rfl ?_
      refine gop (y_neq rfl rfl) rfl rfl rfl ?_
      refine gop (y_move (v := .bool _) rfl) rfl rfl rfl ?_
      refine gop_if (want := false) rfl rfl rfl rfl rfl rfl (fun hg41 => ?_) (fun hg41 => ?_)
      · 
        have hg41d := Decidable.not_not.1 (of_decide_eq_false hg41)
        refine gop (y_bare (y_fieldAddr_box fa23_0 rfl)) rfl rfl rfl ?_
        refine gop_on rfl rfl rfl rfl hg41 ?_
        refine gop (y_bare (y_load Tryd.isAgg3 rfl (cell_box 4 rfl rfl))) rfl rfl rfl ?_
        refine gop_on rfl rfl rfl rfl hg41 ?_
        refine gop (y_bare (y_neq rfl rfl)) rfl rfl rfl ?_
        refine gop (y_pick_f (v := .bool _) rfl hg41 rfl) rfl rfl rfl ?_
        refine gops_nil ?_
        refine hN8 _ _ ?_
        refine gfrom [(4, .pointer _), (7, .slice _ _ _), (9, .slice A26 _ c26), (11, .bool _), (12, .pointer _), (45, .bool _)] ⟨rfl, rfl, rfl, rfl, rfl, rfl, trivial⟩ fun σ => ?_
        refine gcond (b := _) rfl (fun hc45 => ?_) (fun hc45 => ?_)
        · 
          replace hc45 := of_decide_eq_true hc45
          refine gseq fun N9 hN9 => ?_
          refine greg ?_
          refine gop (y_assign (v := .bool _) rfl) rfl rfl rfl ?_
          refine gops_nil ?_
          refine hN9 _ _ ?_
          refine gfrom [(6, .bool _)] ⟨rfl, trivial⟩ fun σ => ?_
          refine gret fun w1 hM => ?_
          refine ⟨_, res1 rfl (rt (v := .bool _) rfl), ?_⟩
          exact ⟨rfl, hM.low⟩
        · 
          replace hc45 := Decidable.not_not.1 (of_decide_eq_false hc45)
          have hlaw := law22_plain (r := ⟨pat, us⟩) hg41d hc45
          refine gskip ?_
          refine hN7 _ _ ?_
          refine gfrom [(4, .pointer _), (7, .slice _ _ _), (9, .slice A26 _ c26), (11, .bool _), (12, .pointer _)] ⟨rfl, rfl, rfl, rfl, rfl, trivial⟩ fun σ => ?_
          refine gseq fun N10 hN10 => ?_
          refine greg ?_
          refine gop (y_fieldAddr_box fa23_0 rfl) rfl rfl rfl ?_
          refine gop (y_load Tryd.isAgg3 rfl (cell_box 5 rfl rfl)) rfl rfl rfl ?_
          refine gop (y_eql rfl rfl) rfl rfl rfl ?_
          refine gop (y_move (v := .bool _) rfl) rfl rfl rfl ?_
          refine gop_if (want := true) rfl rfl rfl rfl rfl rfl (fun hg49 => ?_) (fun hg49 => ?_)
          · 
            have hg49d := of_decide_eq_true hg49
            refine gop (y_bare (y_move (v := .bool _) rfl)) rfl rfl rfl ?_
            refine gop_on rfl rfl rfl rfl hg49 ?_
            refine gop (y_bare (y_move (v := .bool _) rfl)) rfl rfl rfl ?_
            refine gop_if (want := true) rfl rfl rfl rfl rfl rfl (fun hg51 => ?_) (fun hg51 => ?_)
            · 
              have hg51d := hg51
              refine gop (y_bare (y_move (v := .slice A26 _ c26) rfl)) rfl rfl rfl ?_
              refine gop_on rfl rfl rfl rfl hg51 ?_
              refine gop (y_bare (y_fieldAddr_box fa32_1 rfl)) rfl rfl rfl ?_
              refine gop_on rfl rfl rfl rfl hg51 ?_
              refine gop (y_bare (y_load Tryd.isAgg30 rfl (cell_box 0 rfl rfl))) rfl rfl rfl ?_
              refine gop_on rfl rfl rfl rfl hg51 ?_
              refine gop_pure (e_call (vs := [.slice A26 _ c26, .slice _ _ _]) Tryd.func20 rfl (by kernel_rfl) rfl) (fun w hM => by have h1 : Rdl w 0 1 intCells A26 (ofV (rls rs ++ [⟨pat, us⟩]) path) := ((row_rdl (f := intCells) (fun _ => rfl) (hM.ok _ (List.mem_of_getElem? (i := 3) rfl))).mono (Nat.zero_le _)); have h2 : Rdl w 0 1 intCells B us := hL.rd.base hM; have h3 := Nat.le_trans hc26 hm26; have hc := sameInts_any w A26 B c26 d (ofV (rls rs ++ [⟨pat, us⟩]) path) us h1 h2 h3; exact hc) rfl rfl rfl ?_
              refine gop_on rfl rfl rfl rfl hg49 ?_
              refine gop (y_bare (y_pick_t (v := .bool _) rfl hg51 rfl)) rfl rfl rfl ?_
              refine gop_on rfl rfl rfl rfl hg49 ?_
              refine gop (y_bare (y_move (v := .bool _) rfl)) rfl rfl rfl ?_
              refine gop_if (want := false) rfl rfl rfl rfl rfl rfl (fun hg57 => ?_) (fun hg57 => ?_)
              · 
                have hg57d := hg57
                refine gop (y_bare (y_move (v := .bool _) rfl)) rfl rfl rfl ?_
                refine gop_on rfl rfl rfl rfl hg57 ?_
                refine gop (y_bare (y_not rfl)) rfl rfl rfl ?_
                refine gop_on rfl rfl rfl rfl hg57 ?_
                refine gop (y_bare (y_move (v := .bool _) rfl)) rfl rfl rfl ?_
                refine gop_if (want := true) rfl rfl rfl rfl rfl rfl (fun hg60 => ?_) (fun hg60 => ?_)
                · 
                  have hg60d := not_t hg60
                  refine gop (y_bare (y_move (v := .slice _ _ _) rfl)) rfl rfl rfl ?_
                  refine gop_on rfl rfl rfl rfl hg60 ?_
                  refine gop (y_bare (y_move (v := .slice A26 _ c26) rfl)) rfl rfl rfl ?_
                  refine gop_on rfl rfl rfl rfl hg60 ?_
                  refine gop_pure (e_call (vs := [.slice _ _ _, .slice A26 _ c26]) Tryd.func20 rfl (by kernel_rfl) rfl) (fun w hM => by have h1 : Rdl w 0 1 intCells A16 (ofV (rls rs) path) := ((row_rdl (f := intCells) (fun _ => rfl) (hM.ok _ (List.mem_of_getElem? (i := 1) rfl))).mono (Nat.zero_le _)); have h2 : Rdl w 0 1 intCells A26 (ofV (rls rs ++ [⟨pat, us⟩]) path) := ((row_rdl (f := intCells) (fun _ => rfl) (hM.ok _ (List.mem_of_getElem? (i := 3) rfl))).mono (Nat.zero_le _)); have h3 := Nat.le_trans hc16 hm16; have hc := sameInts_any w A16 A26 c16 c26 (ofV (rls rs) path) (ofV (rls rs ++ [⟨pat, us⟩]) path) h1 h2 h3; exact hc) rfl rfl rfl ?_
                  refine gop_on rfl rfl rfl rfl hg57 ?_
                  refine gop (y_bare (y_pick_t (v := .bool _) rfl hg60 rfl)) rfl rfl rfl ?_
                  refine gop_on rfl rfl rfl rfl hg49 ?_
                  refine gop (y_bare (y_pick_f (v := .bool _) rfl hg57 rfl)) rfl rfl rfl ?_
                  refine gop (y_pick_t (v := .bool _) rfl hg49 rfl) rfl rfl rfl ?_
                  refine gop (y_assign (v := .bool _) rfl) rfl rfl rfl ?_
                  refine gops_nil ?_
                  refine hN10 _ _ ?_
                  refine gfrom [(6, .bool _)] ⟨rfl, trivial⟩ fun σ => ?_
                  refine gret fun w1 hM => ?_
                  refine ⟨_, res1 rfl (rt (v := .bool _) rfl), ?_⟩
                  first | exact ⟨rfl, hM.low⟩ | exact ⟨by rw [decide_eq_true ((hlaw.2.2 (by simpa using hg60d)).symm)], hM.low⟩ | (have h7 := hlaw.2.1 hg51d; simp_all; done) | exact absurd (hg60d.symm.trans hg51d) (by decide)
                · 
                  have hg60d := not_f hg60
                  refine gop_off rfl rfl rfl rfl hg60 rfl rfl ?_
                  refine gop_off rfl rfl rfl rfl hg60 rfl rfl ?_
                  refine gop_on rfl rfl rfl rfl hg57 ?_
                  refine gop (y_bare (y_pick_f (v := .bool _) rfl hg60 rfl)) rfl rfl rfl ?_
                  refine gop_on rfl rfl rfl rfl hg49 ?_
                  refine gop (y_bare (y_pick_f (v := .bool _) rfl hg57 rfl)) rfl rfl rfl ?_
                  refine gop (y_pick_t (v := .bool _) rfl hg49 rfl) rfl rfl rfl ?_
                  refine gop (y_assign (v := .bool _) rfl) rfl rfl rfl ?_
                  refine gops_nil ?_
                  refine hN10 _ _ ?_
                  refine gfrom [(6, .bool _)] ⟨rfl, trivial⟩ fun σ => ?_
                  refine gret fun w1 hM => ?_
                  refine ⟨_, res1 rfl (rt (v := .bool _) rfl), ?_⟩
                  first | exact ⟨rfl, hM.low⟩ | exact ⟨by rw [decide_eq_true ((hlaw.2.2 (by simpa using hg60d)).symm)], hM.low⟩ | (have h7 := hlaw.2.1 hg51d; simp_all; done) | exact absurd (hg60d.symm.trans hg51d) (by decide)
              · 
                have hg57d := hg57
                refine gop_off rfl rfl rfl rfl hg57 rfl rfl ?_
                refine gop_off rfl rfl rfl rfl hg57 rfl rfl ?_
                refine gop_offu rfl rfl rfl rfl rfl rfl ?_
                refine gop_offu rfl rfl rfl rfl rfl rfl ?_
                refine gop_offu rfl rfl rfl rfl rfl rfl ?_
                refine gop_off rfl rfl rfl rfl hg57 rfl rfl ?_
                refine gop_on rfl rfl rfl rfl hg49 ?_
                refine gop (y_bare (y_pick_t (v := .bool _) rfl hg57 rfl)) rfl rfl rfl ?_
                refine gop (y_pick_t (v := .bool _) rfl hg49 rfl) rfl rfl rfl ?_
                refine gop (y_assign (v := .bool _) rfl) rfl rfl rfl ?_
                refine gops_nil ?_
                refine hN10 _ _ ?_
                refine gfrom [(6, .bool _)] ⟨rfl, trivial⟩ fun σ => ?_
                refine gret fun w1 hM => ?_
                refine ⟨_, res1 rfl (rt (v := .bool _) rfl), ?_⟩
                first | exact ⟨rfl, hM.low⟩ | exact ⟨by rw [decide_eq_true ((hlaw.2.2 (by simpa using hg60d)).symm)], hM.low⟩ | (have h7 := hlaw.2.1 hg51d; simp_all; done) | exact absurd (hg60d.symm.trans hg51d) (by decide)
            · 
              have hg51d := hg51
              refine gop_off rfl rfl rfl rfl hg51 rfl rfl ?_
              refine gop_off rfl rfl rfl rfl hg51 rfl rfl ?_
              refine gop_off rfl rfl rfl rfl hg51 rfl rfl ?_
              refine gop_on rfl rfl rfl rfl hg49 ?_
              refine gop (y_bare (y_pick_f (v := .bool _) rfl hg51 rfl)) rfl rfl rfl ?_
              refine gop_on rfl rfl rfl rfl hg49 ?_
              refine gop (y_bare (y_move (v := .bool _) rfl)) rfl rfl rfl ?_
              refine gop_on rfl rfl rfl rfl rfl ?_
              refine gop (y_bare (y_move (v := .bool _) rfl)) rfl rfl rfl ?_
              refine gop_on rfl rfl rfl rfl rfl ?_
              refine gop (y_bare (y_not rfl)) rfl rfl rfl ?_
              refine gop_on rfl rfl rfl rfl rfl ?_
              refine gop (y_bare (y_move (v := .bool _) rfl)) rfl rfl rfl ?_
              refine gop_if (want := true) rfl rfl rfl rfl rfl rfl (fun hg60 => ?_) (fun hg60 => ?_)
              · 
                have hg60d := not_t hg60
                refine gop (y_bare (y_move (v := .slice _ _ _) rfl)) rfl rfl rfl ?_
                refine gop_on rfl rfl rfl rfl hg60 ?_
                refine gop (y_bare (y_move (v := .slice A26 _ c26) rfl)) rfl rfl rfl ?_
                refine gop_on rfl rfl rfl rfl hg60 ?_
                refine gop_pure (e_call (vs := [.slice _ _ _, .slice A26 _ c26]) Tryd.func20 rfl (by kernel_rfl) rfl) (fun w hM => by have h1 : Rdl w 0 1 intCells A16 (ofV (rls rs) path) := ((row_rdl (f := intCells) (fun _ => rfl) (hM.ok _ (List.mem_of_getElem? (i := 1) rfl))).mono (Nat.zero_le _)); have h2 : Rdl w 0 1 intCells A26 (ofV (rls rs ++ [⟨pat, us⟩]) path) := ((row_rdl (f := intCells) (fun _ => rfl) (hM.ok _ (List.mem_of_getElem? (i := 3) rfl))).mono (Nat.zero_le _)); have h3 := Nat.le_trans hc16 hm16; have hc := sameInts_any w A16 A26 c16 c26 (ofV (rls rs) path) (ofV (rls rs ++ [⟨pat, us⟩]) path) h1 h2 h3; exact hc) rfl rfl rfl ?_
                refine gop_on rfl rfl rfl rfl rfl ?_
                refine gop (y_bare (y_pick_t (v := .bool _) rfl hg60 rfl)) rfl rfl rfl ?_
                refine gop_on rfl rfl rfl rfl hg49 ?_
                refine gop (y_bare (y_pick_f (v := .bool _) rfl rfl rfl)) rfl rfl rfl ?_
                refine gop (y_pick_t (v := .bool _) rfl hg49 rfl) rfl rfl rfl ?_
                refine gop (y_assign (v := .bool _) rfl) rfl rfl rfl ?_
                refine gops_nil ?_
                refine hN10 _ _ ?_
                refine gfrom [(6, .bool _)] ⟨rfl, trivial⟩ fun σ => ?_
                refine gret fun w1 hM => ?_
                refine ⟨_, res1 rfl (rt (v := .bool _) rfl), ?_⟩
                first | exact ⟨rfl, hM.low⟩ | exact ⟨by rw [decide_eq_true ((hlaw.2.2 (by simpa using hg60d)).symm)], hM.low⟩ | (have h7 := hlaw.2.1 hg51d; simp_all; done) | exact absurd (hg60d.symm.trans hg51d) (by decide)
              · 
                have hg60d := not_f hg60
                refine gop_off rfl rfl rfl rfl hg60 rfl rfl ?_
                refine gop_off rfl rfl rfl rfl hg60 rfl rfl ?_
                refine gop_on rfl rfl rfl rfl rfl ?_
                refine gop (y_bare (y_pick_f (v := .bool _) rfl hg60 rfl)) rfl rfl rfl ?_
                refine gop_on rfl rfl rfl rfl hg49 ?_
                refine gop (y_bare (y_pick_f (v := .bool _) rfl rfl rfl)) rfl rfl rfl ?_
                refine gop (y_pick_t (v := .bool _) rfl hg49 rfl) rfl rfl rfl ?_
                refine gop (y_assign (v := .bool _) rfl) rfl rfl rfl ?_
                refine gops_nil ?_
                refine hN10 _ _ ?_
                refine gfrom [(6, .bool _)] ⟨rfl, trivial⟩ fun σ => ?_
                refine gret fun w1 hM => ?_
                refine ⟨_, res1 rfl (rt (v := .bool _) rfl), ?_⟩
                first | exact ⟨rfl, hM.low⟩ | exact ⟨by rw [decide_eq_true ((hlaw.2.2 (by simpa using hg60d)).symm)], hM.low⟩ | (have h7 := hlaw.2.1 hg51d; simp_all; done) | exact absurd (hg60d.symm.trans hg51d) (by decide)
          · 
             exact absurd hlaw.1 (of_decide_eq_false hg49)
      · 
        have hg41d := of_decide_eq_true hg41
        refine gop_off rfl rfl rfl rfl hg41 rfl rfl ?_
        refine gop_off rfl rfl rfl rfl hg41 rfl rfl ?_
        refine gop (y_pick_t (v := .bool _) rfl hg41 rfl) rfl rfl rfl ?_
        refine gops_nil ?_
        refine hN8 _ _ ?_
        refine gfrom [(4, .pointer _), (7, .slice _ _ _), (9, .slice A26 _ c26), (11, .bool _), (12, .pointer _), (45, .bool _)] ⟨rfl, rfl, rfl, rfl, rfl, rfl, trivial⟩ fun σ => ?_
        refine gcond (b := _) rfl (fun hc45 => ?_) (fun hc45 => ?_)
        · 
          refine gseq fun N11 hN11 => ?_
          refine greg ?_
          refine gop (y_assign (v := .bool _) rfl) rfl rfl rfl ?_
          refine gops_nil ?_
          refine hN11 _ _ ?_
          refine gfrom [(6, .bool _)] ⟨rfl, trivial⟩ fun σ => ?_
          refine gret fun w1 hM => ?_
          refine ⟨_, res1 rfl (rt (v := .bool _) rfl), ?_⟩
          exact ⟨rfl, hM.low⟩
        · 
          cases hc45
end Go.Proofs.YtijpaljdclhehaaDoor
namespace Go.Cf
open Go.ChangeShapes Go.WideShapes Go.ChangeAt Go.RowKit Go.Deep
theorem law_lift_row {H : Type} {enc : TypeId × Value → H} {C : Checked} {os : Os} {f : FuncId} {fn : Func} {s : OpenSpec} {F : Stop.Interp} {conds : List PathCond} {tb : TypeId} {laid : List (String × DataW Unit)}
    (own : ownKnob C.prog.godebug = none) (started : os.Started) (noInit : C.prog.inits.idxOf? f = none) (hfn : C.prog.funcs[f]? = some fn)
    (witness : ∃ (w : World) (tape : Tape) (i : Input), w.os = os ∧ (w.forCall tape i).Shaped C.prog ∧ i.vars = [] ∧ Input.okWide C.prog (w.forCall tape i) .any w.heap.size f i ∧
      s.preRow enc C.prog fn conds false laid (w.forCall tape i).memory i.args ∧ Assume.holds {} C.prog (lone (Frame.enter C.prog f i.args .normal) [] (w.forCall tape i)))
    (hl : laidOutB C.prog = true) (hread : (fn.params.toList.all fun t => C.prog.readableRec t && decide (t < C.prog.types.size)) = true) (hres : fn.resultTypes = #[tb]) (htb : C.prog.underlying tb = some .bool) (hvars : s.vars = []) (hvars0 : (s.at F).vars = []) (hvt : s.bare.plain.varTypes C.prog = [])
    (hspec : ∀ ds : List (DataW H), ds.length = fn.params.size → ((s.at F).fn H (ds ++ [])).results = [.lit (.bool true)] ∧ ((s.at F).fn H (ds ++ [])).args = ds ∧ ((s.at F).fn H (ds ++ [])).vars = [])
    (contract : ∀ (W : World) (base : Nat) (args : Array Value) (ds : List (DataW H)) (p : List MemPlace),
      (∀ (j : Nat) t v, fn.params[j]? = some t → args[j]? = some v → Value.okWide C.prog W .any base t v) → DataW.TrodAll enc C.prog W 0 (fun _ => true) true fn.params.toList args.toList ds p →
      (DataW.weightsEach C.prog fn.params.toList ds).all (· ≤ reachBytes) = true → (∀ k, s.cond = some k → k H ds = true) → laidMetH C.prog laid W →
      Calls C.prog f args W fun e W' => e = .returned (.bool true) ∧ Below W.heap.size W W') :
    ReturnsInHanded {} C os f .any (s.preRow enc C.prog fn conds false laid) ((s.at F).post enc C.prog fn false true false false) := by
  refine returnsInHanded_of_row own started noInit hfn witness ?_
  intro W base args ds gs before hval hW _ hkk hsz hL _ _
  have hW' := hW
  obtain ⟨p, q, hA, hV, rfl, _, _⟩ := hW
  rw [hvars] at hV
  obtain ⟨rfl, rfl⟩ := trodVars_none hV
  have hlen : ds.length = fn.params.size := by
    have key : ∀ (ts : List TypeId) (vs : List Value) (ds : List (DataW H)) (p : List MemPlace), DataW.TrodAll enc C.prog W 0 (fun _ => true) true ts vs ds p → ds.length = ts.length := by
      intro ts
      induction ts with
      | nil => intro vs ds p h; obtain ⟨_, rfl, _⟩ := trodAll_nil h; rfl
      | cons t ts ih => intro vs ds p h; obtain ⟨v, vs', d, ds', p, q, rfl, rfl, rfl, _, h2⟩ := trodAll_cons h; simp [ih _ _ _ h2]
    rw [key _ _ _ _ hA]; simp
  have hw : (DataW.weightsEach C.prog fn.params.toList ds).all (· ≤ reachBytes) = true := by
    simpa [hvt] using hsz
  refine (contract W base args ds p hval hA hw (fun k hk => by simpa using hkk k hk) hL).mono fun e W' ⟨he, bel⟩ => ?_
  subst he
  obtain ⟨h1, h2, h3⟩ := hspec ds hlen
  have hr : ∀ t ∈ fn.params.toList, C.prog.readableRec t = true ∧ t < C.prog.types.size := by
    intro t ht
    have := List.all_eq_true.1 hread t ht
    simpa using this
  refine ⟨_, rfl, ds, [], p ++ [], [], p, [], hW', ?_, ?_, ?_, World.keptBut_mono (fun x hx => ⟨hx, ?_⟩) (bel.frame (· ∈ p ++ [])), fun h => by cases h⟩
  · rw [h1, hres]; exact trodAll_mk1 (shut_bool htb _)
  · rw [h2]; exact trodAll_below hl bel hr hA
  · rw [h3, hvars0]; rfl
  · right; left; simpa using hx
section
variable {H : Type} {enc : TypeId × Value → H} {P : Program} {w : World} {t : TypeId} {v : Value} {d : DataW H} {p : List MemPlace} {b0 : Nat}
theorem rd_string (ht : P.underlying t = some .string) (hok : Value.okWide P w .any b0 t v) (h : DataW.Trod enc P w 0 (fun _ => true) true t v d p) (hw : (d.weights P t).all (· ≤ reachBytes) = true) : ∃ s : ByteArray, v = .string s ∧ d = .lit (.string s.data.toList) ∧ s.size ≤ reachBytes := by
  obtain ⟨s, rfl⟩ := okWide_string ht hok
  obtain ⟨n, hn⟩ := h
  obtain ⟨a, h1, h2, _⟩ := DataW.trod_string ht hn
  have h3 : a = s := by simpa [Value.cells] using h1.symm
  subst h3
  have hd : d = .lit (.string a.data.toList) := congrArg Prod.fst h2
  subst hd
  refine ⟨a, rfl, rfl, ?_⟩
  have : a.data.toList.length = a.size := by rw [Array.length_toList]; rfl
  simpa [DataW.weights, this] using hw
end
end Go.Cf
namespace Go.Proofs.YtijpaljdclhehaaDoor
open Go.ChangeShapes Go.WideShapes Go.ChangeAt Go.RowKit Go.Cf
set_option maxRecDepth 10000
theorem ce_str : Tryd.prog.cellsOf 9 = 1 := by kernel_rfl
theorem ce_ints : Tryd.prog.cellsOf 30 = 1 := by kernel_rfl
theorem by_int : Tryd.prog.bytesOf 3 = 8 := by kernel_rfl
theorem by_rule : Tryd.prog.bytesOf 32 = 40 := by kernel_rfl
theorem el_rule {H : Type} {enc : TypeId × Value → H} {w : World} : ∀ (n : Nat) (cs : List Value) (x : DataW H × List MemPlace), DataW.trod enc Tryd.prog w 0 (fun _ => true) true n 32 cs = some x →
    (x.1.weights Tryd.prog 32).all (· ≤ reachBytes) = true → ∃ a : RuleC, cs = ruleCells a ∧ RuleR w 0 a := by
  intro n cs x h hw
  obtain ⟨m, hlen, hf⟩ := rd_struct Tryd.underlying32 h hw
  have hl : cs.length = 2 := hlen.trans (by kernel_rfl)
  match cs, hl with
  | [c0, c1], _ =>
    obtain ⟨y0, f0, w0⟩ := hf 0 _ rfl
    obtain ⟨y1, f1, w1⟩ := hf 1 _ rfl
    simp [ce_str, ce_ints] at f0 f1
    obtain ⟨a0, e0, _⟩ := el_str Tryd.underlying9 m _ _ f0 w0
    obtain ⟨A1, c1', l1, e1, r1, s1, m1, n1, t1, _⟩ := rd_cells Tryd.underlying30 (by kernel_rfl) (el_int Tryd.underlying3) f1 w1
    simp at e0 e1
    subst e0 e1
    rw [by_int] at t1
    exact ⟨⟨⟨a0, l1⟩, A1, c1'⟩, rfl, ⟨r1, ⟨s1, m1, n1, Nat.le_trans (Nat.mul_le_mul_right _ s1) t1⟩⟩⟩
end Go.Proofs.YtijpaljdclhehaaDoor
namespace Go.Proofs.YtijpaljdclhehaaDoor
open Go.ChangeShapes Go.WideShapes Go.ChangeAt Go.RowKit Go.Cf
theorem bulk_one {H : Type} (d : DataW H) : 1 ≤ Rows.uptoBulk d := by
  cases d with
  | lit l => cases l <;> simp [Rows.uptoBulk]
  | _ => simp [Rows.uptoBulk]
theorem bulk_count {H : Type} (l : List (DataW H)) : l.length ≤ Rows.uptoBulkAll l := by
  induction l with
  | nil => simp [Rows.uptoBulkAll]
  | cons x r ih => have := bulk_one x; simp only [Rows.uptoBulkAll, List.length_cons]; omega
theorem bulk_len {H : Type} {enc : TypeId × Value → H} {P : Program} {w : World} {t e : TypeId} {d : DataW H} {p : List MemPlace} (ht : P.underlying t = some (.slice e)) {A : Option Addr} {len cap : Nat}
    (h : DataW.Trod enc P w 0 (fun _ => true) true t (.slice A len cap) d p) : len ≤ Rows.uptoBulk d ∧ cap ≤ Rows.uptoBulk d := by
  rcases rd_places ht h with ⟨_, rfl, rfl⟩ | ⟨xs, ys, rfl, h1, h2⟩
  · exact ⟨Nat.zero_le _, Nat.zero_le _⟩
  · have := bulk_count xs
    have := bulk_count ys
    simp only [Rows.uptoBulk]
    omega
end Go.Proofs.YtijpaljdclhehaaDoor
namespace Go.Proofs.YtijpaljdclhehaaDoor
open Go.ChangeShapes Go.WideShapes Go.ChangeAt Go.RowKit Go.Cf
set_option maxRecDepth 100000 in
theorem ownersLastMatchWins_lifted (os : Os) (started : os.Started) (H : Type) (enc : TypeId × Value → H) (F : Stop.Interp) :
    ReturnsInHanded {} Tryd.checked os 6 .any ((Rows.OpenSpec.upto Rows.ownersLastMatchWinsSpec).preRow enc Tryd.prog Tryd.f6 Rows.ownersLastMatchWinsUptoRow.domain false Rows.ownersLastMatchWinsUptoRow.laid) (((Rows.OpenSpec.upto Rows.ownersLastMatchWinsSpec).at F).post enc Tryd.prog Tryd.f6 false true false false) := by
  refine law_lift_row (C := Tryd.checked) (s := Rows.OpenSpec.upto Rows.ownersLastMatchWinsSpec) (tb := 4) (by kernel_rfl) started (by kernel_rfl) Tryd.func6
    (witness_row_at (enc := enc) (C := Tryd.checked) false ({ (World.holding Tryd.prog os ⟨#[], #[], []⟩) with heap := ((World.holding Tryd.prog os ⟨#[], #[], []⟩).heap.modify 1 fun | .cells _ t fz => .cells (Go.Pinned.utf8FirstZ.map fun n : Nat => Value.int .u8 (n : Int)).toArray t fz | o => o).modify 2 fun | .cells _ t fz => .cells (([128, 191, 160, 191, 128, 159, 144, 191, 128, 143, 0, 0, 0, 0, 0, 0, 0, 0, 0, 0, 0, 0, 0, 0, 0, 0, 0, 0, 0, 0, 0, 0] : List Nat).map fun n : Nat => Value.int .u8 (n : Int)).toArray t fz | o => o } : World) #[.slice none 0 0, .agg #[.string .empty, .slice none 0 0], .string .empty] rfl (by kernel_rfl) (by kernel_rfl) (by kernel_rfl)
      (OpenSpec.preRow_of_cond 8 (show DataW.whole enc Tryd.prog _ Tryd.f6.params.toList _ false _ 8 = some ([.nil, .agg [.lit (.string []), .nil], .lit (.string [])], [], []) by kernel_rfl) (by kernel_rfl) (fun k hk => by cases hk; kernel_rfl) (by kernel_rfl) (laidMet_of_run' 8 (by kernel_rfl) (by kernel_rfl))))
    (by kernel_rfl) (by kernel_rfl) (by kernel_rfl) Tryd.underlying4 rfl rfl rfl ?_ ?_
  · intro ds hds
    rw [show Tryd.f6.params.size = 3 from by rw [Tryd.params6]; rfl] at hds
    match ds, hds with
    | [d0, d1, d2], _ => exact ⟨rfl, rfl, rfl⟩
  · intro W base args ds p hval hA hw hk hL
    rw [show Tryd.f6.params.toList = [29, 32, 9] from by rw [Tryd.params6]] at hA hw
    rw [Tryd.params6] at hval
    obtain ⟨v0, vs0, d0, ds0, p0, q0, hargs, rfl, rfl, h0, r0⟩ := trodAll_cons hA
    obtain ⟨v1, vs1, d1, ds1, p1, q1, rfl, rfl, rfl, h1, r1⟩ := trodAll_cons r0
    obtain ⟨v2, vs2, d2, ds2, p2, q2, rfl, rfl, rfl, h2, r2⟩ := trodAll_cons r1
    obtain ⟨rfl, rfl, rfl⟩ := trodAll_nil r2
    obtain rfl : args = #[v0, v1, v2] := by cases args; simp_all
    obtain ⟨w0, hw⟩ := weights_each hw
    obtain ⟨w1, hw⟩ := weights_each hw
    obtain ⟨w2, hw⟩ := weights_each hw
    have hb : Rows.uptoBulkAll [d0, d1, d2] ≤ 1048576 := of_decide_eq_true (hk _ rfl)
    simp only [Rows.uptoBulkAll] at hb
    obtain ⟨A0, c0, l0, rfl, hv0, hlc0, hcm0, hA0, hcb0, hQ0⟩ := rd_slice Tryd.underlying29 (by kernel_rfl) el_rule (hval 0 29 v0 rfl rfl) h0 w0
    have hR0 : RulesR W 0 A0 c0 l0 := ⟨hv0, hQ0, ⟨hlc0, hcm0, hA0, Nat.le_trans (Nat.mul_le_mul_right _ hlc0) (by rw [by_rule] at hcb0; exact hcb0)⟩⟩
    obtain ⟨⟨⟨p1, u1⟩, B1, d1⟩, rfl, hp1⟩ := rd_agg Tryd.underlying32 el_rule (hval 1 32 v1 rfl rfl) h1 w1
    obtain ⟨s2, rfl, hd2, hs2⟩ := rd_string Tryd.underlying9 (hval 2 9 v2 rfl rfl) h2 w2
    have hb0 := bulk_len Tryd.underlying29 h0
    exact law22_any W A0 c0 l0 hR0 (by omega) p1 u1 B1 d1 hp1 s2
theorem ownersLastMatchWins_said : Rows.OwnersLastMatchWinsUptoSaid :=
  OpenClaim.holds_of_cond 6 Tryd.f6 rfl rfl rfl rfl rfl rfl rfl ⟨rfl, rfl, rfl, rfl, rfl⟩ rfl rfl rfl rfl rfl (by kernel_rfl) Tryd.func6 (by kernel_rfl)
    (of_decide_eq_true (by kernel_rfl)) (by unfold Func.isWrapper; first | (rw [if_pos (by decide +kernel)]; kernel_rfl) | (rw [if_neg (by decide +kernel)]; exact ⟨rfl, rfl⟩))
    (fun os started H enc _ F => by rw [OpenClaim.pre_eq_preRow]; exact ownersLastMatchWins_lifted os started H enc F)
theorem ownersLastMatchWins_plain (f : FuncId) (fn : Func) (hf : Tryd.pinned.checked.prog.funcNamed "changeforge/changeforgelaw7.OwnersLastMatchWins" = some f) (hfn : Tryd.pinned.checked.prog.funcs[f]? = some fn) :
    false = Tryd.pinned.checked.prog.looks [] ∧ ∀ (j : Nat) t, fn.params[j]? = some t → Tryd.pinned.checked.prog.wantsStandIn t = false := by
  obtain rfl : f = 6 := Option.some.inj ((show Tryd.prog.funcNamed "changeforge/changeforgelaw7.OwnersLastMatchWins" = some 6 by kernel_rfl).symm.trans hf) |>.symm
  obtain rfl : fn = Tryd.f6 := (Option.some.inj (Tryd.func6.symm.trans hfn)).symm
  refine ⟨by kernel_rfl, fun j t ht => ?_⟩
  rw [Tryd.params6] at ht
  have hm : t ∈ [29, 32, 9] := by simpa using Array.mem_of_getElem? ht
  have hall : ([29, 32, 9].all fun u => !Tryd.prog.wantsStandIn u) = true := by kernel_rfl
  exact (show Tryd.prog.wantsStandIn t = false by simpa using List.all_eq_true.1 hall t hm)
theorem ownersLastMatchWins_holds : Rows.OwnersLastMatchWinsUptoCardSaid :=
  Claim7.holds_tied_plain_at .later [] _ _ _ _ ownersLastMatchWins_said (fun _ h => by cases h) (by kernel_rfl) (fun _ h => by cases h) ownersLastMatchWinsUpto_row_tie rfl ⟨rfl, rfl⟩ (by kernel_rfl) rfl ownersLastMatchWins_plain (by kernel_rfl)
end Go.Proofs.YtijpaljdclhehaaDoor
