/-
  OwnersFunctionsMatchSpec: for all rules, texts and paths the law returns true (the tied card of the second form: what is read is of bulk at most 1048576).
-/
import Derived.Test.YtijpaljdclhehaaDoorP26f
import Derived.Deep.DeepHandedRow
import Derived.Lib.LaidTab
import Derived.Test.YtijpaljdclhehaaDoorCards
import Derived.Test.YtijpaljdclhehaaDoorProg
import Derived.Test.YtijpaljdclhehaaDoorRows
import Derived.Test.YtijpaljdclhehaaDoorTie
namespace Go.Proofs.YtijpaljdclhehaaDoor
open Go.RowKit Go.Cf
set_option maxRecDepth 10000
theorem eq23 (a0 b0 : Int) (a1 b1 : Int) (w : World) : (binOp .eql 23 (.agg #[.int .i64 a0, .int .i64 a1]) (.agg #[.int .i64 b0, .int .i64 b1])).run Tryd.prog w = .ok (.bool ((decide (a0 = b0) && decide (a1 = b1)))) w := by
  simp [run_eql_struct, run_equalIn_agg, Tryd.underlying23, Tryd.stoodInHeld23, Program.fieldsOf, go_sem]
  (repeat' split) <;> simp_all
set_option maxHeartbeats 16000000 in
theorem law26_any (w : World) (A : Option Addr) (c : Nat) (rs : List RuleC) (hR : RulesR w 0 A c rs) (TA : Option Addr) (tc : Nat) (text : List ByteArray) (ht : Rdl w 0 1 strCells TA text) (htl : text.length ≤ tc) (htm : tc ≤ maxLen) (path : ByteArray) (hpz : path.size ≤ 4000000) (PA : Option Addr) (pc : Nat) (ps : List ByteArray) (hps : Rdl w 0 1 strCells PA ps) (hpl : ps.length ≤ pc) (hpm : pc ≤ maxLen) (hpsz : ∀ p ∈ ps, p.size ≤ 4000000) : Calls Tryd.prog 10 #[.slice A rs.length c, .slice TA text.length tc, .string path, .slice PA ps.length pc] w fun e w' => e = .returned (.bool true) ∧ Below w.heap.size w w' := by
  have hln := hR.sb.len
  have hmx := hR.sb.max
  unfold maxLen at hmx
  have hpn : ps.length ≤ 9223372036854775807 := by have h9 := Nat.le_trans hpl hpm; unfold maxLen at h9; omega
  have htn : text.length ≤ 9223372036854775807 := by have h9 := Nat.le_trans htl htm; unfold maxLen at h9; omega
  refine gcalls Tryd.func10 rfl Tryd.ntmps10 (Nat.le_of_ble_eq_true rfl) ?_
  refine gfrom [(0, .slice _ _ _), (1, .slice _ _ _), (2, .string _), (3, .slice _ _ _)] ⟨rfl, rfl, rfl, rfl, trivial⟩ fun σ => ?_
  refine gseq fun N1 hN1 => ?_
  refine greg ?_
  refine gop (y_assign (v := .bool _) rfl) rfl rfl rfl ?_
  refine gops_nil ?_
  refine hN1 _ _ ?_
  refine gfrom [(0, .slice _ _ _), (1, .slice _ _ _), (2, .string _), (3, .slice _ _ _)] ⟨rfl, rfl, rfl, rfl, trivial⟩ fun σ => ?_
  refine gseq fun N2 hN2 => ?_
  refine greg ?_
  refine gop (y_move (v := .slice _ _ _) rfl) rfl rfl rfl ?_
  refine gop_pure (e_call (vs := [.slice _ _ _]) Tryd.func27 rfl (by kernel_rfl) rfl) (fun w hM => refRulesFault_any w A c rs (RulesR.lasts.base hR hM)) rfl rfl rfl ?_
  refine gop_alloc (cs := #[.int .i64 0, .int .i64 0]) Tryd.zeroValue23 rfl rfl (fun b9 hb9 => ?_)
  refine gop_store 0 (v := .agg #[_, _]) (cs' := #[_, _]) rfl rfl Tryd.sizeOf23 rfl rfl rfl rfl (Nat.le_of_ble_eq_true rfl) rfl rfl ?_
  refine gops_nil ?_
  refine hN2 _ _ ?_
  refine gT [box b9 _] rfl ?_
  refine gfrom [(0, .slice _ _ _), (1, .slice _ _ _), (2, .string _), (3, .slice _ _ _), (9, .pointer _)] ⟨rfl, rfl, rfl, rfl, rfl, trivial⟩ fun σ => ?_
  refine gseq fun N3 hN3 => ?_
  refine greg ?_
  refine gop (y_move (v := .slice _ _ _) rfl) rfl rfl rfl ?_
  refine gop_got (fun v T' => ∃ v1 rs' fr lo, w.heap.size ≤ lo ∧ v = .tuple #[v1, fv (fileF (text))] ∧ T' = [rowl ruleCells lo 32 2 (v1) (rs'), fr] ∧ rls rs' = fileV (text) ∧ ∀ w1, fr.ok w1 → ∀ a ∈ rs', RuleR w1 0 a) (e_call (vs := [.slice _ _ _]) Tryd.func22 rfl (by kernel_rfl) rfl) (fun w hM => by have hc := parseFile_any w TA tc (text) (ht.base hM) (Nat.le_trans htl htm); exact hc.mono fun _ _ ⟨v, T1, rs', fr, h1, h2, h3, h4, h5⟩ => ⟨_, T1, h1, ⟨v, rs', fr, _, hM.low.size, rfl, h2, h3, fun w1 ho a ha => (h4 w1 ho a ha).mono (Nat.zero_le _)⟩, h5⟩) rfl rfl rfl ?_
  rintro _ _ ⟨v30, rs30, fr30, lo30, hlo30, rfl, rfl, hrs30, hfr30⟩
  refine gops_fact (fun w hM => row_form (hM.ok _ (List.mem_of_getElem? (i := 1) rfl))) ?_
  rintro ⟨A30, c30, rfl, hc30, hm30, hn30⟩
  refine gop (y_move (v := .tuple #[.slice A30 _ c30, .agg #[_, _]]) rfl) rfl rfl rfl ?_
  refine gop (y_extract (v := .slice _ _ _) rfl rfl) rfl rfl rfl ?_
  refine gop (y_extract (v := .agg #[_, _]) rfl rfl) rfl rfl rfl ?_
  refine gop_alloc (cs := #[.int .i64 0, .int .i64 0]) Tryd.zeroValue23 rfl rfl (fun b11 hb11 => ?_)
  refine gop (y_assign (v := .slice _ _ _) rfl) rfl rfl rfl ?_
  refine gop_store 3 (v := .agg #[_, _]) (cs' := #[_, _]) rfl rfl Tryd.sizeOf23 rfl rfl rfl rfl (Nat.le_of_ble_eq_true rfl) rfl rfl ?_
  refine gops_nil ?_
  refine hN3 _ _ ?_
  refine gT [box b9 _, rowl _ _ _ _ _ _, fr30, box b11 _] rfl ?_
  refine gfrom [(0, .slice _ _ _), (1, .slice _ _ _), (2, .string _), (3, .slice _ _ _), (9, .pointer _), (10, .slice _ _ _), (11, .pointer _)] ⟨rfl, rfl, rfl, rfl, rfl, rfl, rfl, trivial⟩ fun σ => ?_
  refine gseq fun N4 hN4 => ?_
  refine greg ?_
  refine gop (y_move (v := .slice _ _ _) rfl) rfl rfl rfl ?_
  refine gop_got (fun v T' => ∃ v1 lo, w.heap.size ≤ lo ∧ v = .tuple #[v1, fv (rulesF (rls rs))] ∧ T' = [rowl strCells lo 9 1 (v1) (formatV (rls rs))]) (e_call (vs := [.slice _ _ _]) Tryd.func21 rfl (by kernel_rfl) rfl) (fun w hM => by have hc := format_any w A c rs (RulesR.lasts.base hR hM); exact hc.mono fun _ _ ⟨v, T1, h1, h2, h3⟩ => ⟨_, T1, h1, ⟨v, _, hM.low.size, rfl, h2⟩, h3⟩) rfl rfl rfl ?_
  rintro _ _ ⟨v35, lo35, hlo35, rfl, rfl⟩
  refine gops_fact (fun w hM => row_form (hM.ok _ (List.mem_of_getElem? (i := 4) rfl))) ?_
  rintro ⟨A35, c35, rfl, hc35, hm35, hn35⟩
  refine gop (y_move (v := .tuple #[.slice A35 _ c35, .agg #[_, _]]) rfl) rfl rfl rfl ?_
  refine gop (y_extract (v := .slice _ _ _) rfl rfl) rfl rfl rfl ?_
  refine gop (y_extract (v := .agg #[_, _]) rfl rfl) rfl rfl rfl ?_
  refine gop_alloc (cs := #[.int .i64 0, .int .i64 0]) Tryd.zeroValue23 rfl rfl (fun b13 hb13 => ?_)
  refine gop (y_assign (v := .slice _ _ _) rfl) rfl rfl rfl ?_
  refine gop_store 5 (v := .agg #[_, _]) (cs' := #[_, _]) rfl rfl Tryd.sizeOf23 rfl rfl rfl rfl (Nat.le_of_ble_eq_true rfl) rfl rfl ?_
  refine gops_nil ?_
  refine hN4 _ _ ?_
  refine gT [box b9 _, rowl _ _ _ _ _ _, fr30, box b11 _, rowl _ _ _ _ _ _, box b13 _] rfl ?_
  refine gfrom [(0, .slice _ _ _), (1, .slice _ _ _), (2, .string _), (3, .slice _ _ _), (9, .pointer _), (10, .slice _ _ _), (11, .pointer _), (12, .slice _ _ _), (13, .pointer _)] ⟨rfl, rfl, rfl, rfl, rfl, rfl, rfl, rfl, rfl, trivial⟩ fun σ => ?_
  refine gseq fun N5 hN5 => ?_
  refine greg ?_
  refine gop (y_move (v := .slice _ _ _) rfl) rfl rfl rfl ?_
  refine gop (y_move (v := .string _) rfl) rfl rfl rfl ?_
  refine gop_got (fun v T' => ∃ v1 lo, w.heap.size ≤ lo ∧ v = .tuple #[v1, fv (ofF (rls rs) path)] ∧ T' = [rowl intCells lo 3 1 (v1) (ofV (rls rs) path)]) (e_call (vs := [.slice _ _ _, .string _]) Tryd.func18 rfl (by kernel_rfl) rfl) (fun w hM => by have hc := of_any w A c (rs) (RulesR.lasts.base hR hM) path; exact hc.mono fun _ _ ⟨v, T1, h1, h2, h3⟩ => ⟨_, T1, h1, ⟨v, _, hM.low.size, rfl, h2⟩, h3⟩) rfl rfl rfl ?_
  rintro _ _ ⟨v41, lo41, hlo41, rfl, rfl⟩
  refine gops_fact (fun w hM => row_form (hM.ok _ (List.mem_of_getElem? (i := 6) rfl))) ?_
  rintro ⟨A41, c41, rfl, hc41, hm41, hn41⟩
  refine gops_mem _ (weak_lower 6 rfl hlo41) ?_
  refine gop (y_move (v := .tuple #[.slice A41 _ c41, .agg #[_, _]]) rfl) rfl rfl rfl ?_
  refine gop (y_extract (v := .slice _ _ _) rfl rfl) rfl rfl rfl ?_
  refine gop (y_extract (v := .agg #[_, _]) rfl rfl) rfl rfl rfl ?_
  refine gop_alloc (cs := #[.int .i64 0, .int .i64 0]) Tryd.zeroValue23 rfl rfl (fun b15 hb15 => ?_)
  refine gop (y_assign (v := .slice _ _ _) rfl) rfl rfl rfl ?_
  refine gop_store 7 (v := .agg #[_, _]) (cs' := #[_, _]) rfl rfl Tryd.sizeOf23 rfl rfl rfl rfl (Nat.le_of_ble_eq_true rfl) rfl rfl ?_
  refine gops_nil ?_
  refine hN5 _ _ ?_
  refine gT [box b9 _, rowl _ _ _ _ _ _, fr30, box b11 _, rowl _ _ _ _ _ _, box b13 _, rowl _ _ _ _ _ _, box b15 _] rfl ?_
  refine gfrom [(0, .slice _ _ _), (1, .slice _ _ _), (2, .string _), (3, .slice _ _ _), (9, .pointer _), (10, .slice _ _ _), (11, .pointer _), (12, .slice _ _ _), (13, .pointer _), (14, .slice _ _ _), (15, .pointer _)] ⟨rfl, rfl, rfl, rfl, rfl, rfl, rfl, rfl, rfl, rfl, rfl, trivial⟩ fun σ => ?_
  refine gseq fun N6 hN6 => ?_
  refine greg ?_
  refine gop (y_move (v := .slice _ _ _) rfl) rfl rfl rfl ?_
  refine gop (y_move (v := .slice _ _ _) rfl) rfl rfl rfl ?_
  refine gop_got (fun v T' => ∃ v1 og fr lo, w.heap.size ≤ lo ∧ v = .tuple #[v1, fv (reqF (rls rs) ps)] ∧ T' = [rowl gpCells lo 30 1 (v1) (og), fr] ∧ gps og = reqV (rls rs) ps ∧ ∀ w1, fr.ok w1 → ∀ a ∈ og, GrR w1 0 a) (e_call (vs := [.slice _ _ _, .slice _ _ _]) Tryd.func24 rfl (by kernel_rfl) rfl) (fun w hM => by have hc := required_any w A c rs (RulesR.lasts.base hR hM) PA pc ps (hps.base hM) hpl hpm; exact hc.mono fun _ _ ⟨v, T1, og, fr, h1, h2, h3, h4, h5⟩ => ⟨_, T1, h1, ⟨v, og, fr, _, hM.low.size, rfl, h2, h3, fun w1 ho a ha => (h4 w1 ho a ha).mono (Nat.zero_le _)⟩, h5⟩) rfl rfl rfl ?_
  rintro _ _ ⟨v47, og, fr, lo47, hlo47, rfl, rfl, hog, hfr⟩
  refine gops_fact (fun w hM => row_form (hM.ok _ (List.mem_of_getElem? (i := 8) rfl))) ?_
  rintro ⟨A47, c47, rfl, hc47, hm47, hn47⟩
  have hogm := Nat.le_trans hc47 hm47
  unfold maxLen at hogm
  refine gop (y_move (v := .tuple #[.slice A47 _ c47, .agg #[_, _]]) rfl) rfl rfl rfl ?_
  refine gop (y_extract (v := .slice _ _ _) rfl rfl) rfl rfl rfl ?_
  refine gop (y_extract (v := .agg #[_, _]) rfl rfl) rfl rfl rfl ?_
  refine gop_alloc (cs := #[.int .i64 0, .int .i64 0]) Tryd.zeroValue23 rfl rfl (fun b17 hb17 => ?_)
  refine gop (y_assign (v := .slice _ _ _) rfl) rfl rfl rfl ?_
  refine gop_store 10 (v := .agg #[_, _]) (cs' := #[_, _]) rfl rfl Tryd.sizeOf23 rfl rfl rfl rfl (Nat.le_of_ble_eq_true rfl) rfl rfl ?_
  refine gops_nil ?_
  refine hN6 _ _ ?_
  refine gT [box b9 _, rowl _ _ _ _ _ _, fr30, box b11 _, rowl _ _ _ _ _ _, box b13 _, rowl _ _ _ _ _ _, box b15 _, rowl _ _ _ _ _ _, fr, box b17 _] rfl ?_
  refine gfrom [(0, .slice _ _ _), (1, .slice _ _ _), (2, .string _), (3, .slice _ _ _), (9, .pointer _), (10, .slice _ _ _), (11, .pointer _), (12, .slice _ _ _), (13, .pointer _), (14, .slice _ _ _), (15, .pointer _), (16, .slice _ _ _), (17, .pointer _)] ⟨rfl, rfl, rfl, rfl, rfl, rfl, rfl, rfl, rfl, rfl, rfl, rfl, rfl, trivial⟩ fun σ => ?_
  refine gseq fun N7 hN7 => ?_
  refine gseq fun N8 hN8 => ?_
  refine greg_q (by kernel_rfl) (by kernel_rfl) ?_
  refine gq_pure (e_call (vs := []) Tryd.func19 rfl (by kernel_rfl) rfl) (fun w hM => ownersExample_any w) rfl rfl rfl ?_
  refine gq (y_not rfl) rfl rfl rfl ?_
  refine gq (y_move (v := .bool _) rfl) rfl rfl rfl ?_
  refine gq_if (want := false) rfl rfl rfl rfl rfl rfl (fun hg52 => ?_) (fun hg52 => ?_)
  · 
    have hg52d := not_f hg52
    refine gq (y_bare (y_move (v := .slice _ _ _) rfl)) rfl rfl rfl ?_
    refine gq_on rfl rfl rfl rfl hg52 ?_
    refine gq_pure (e_call (vs := [.slice _ _ _]) Tryd.func28 rfl (by kernel_rfl) rfl) (fun w hM => ownValidate_any w A c rs (RulesR.lasts.base hR hM)) rfl rfl rfl ?_
    refine gq_on rfl rfl rfl rfl hg52 ?_
    refine gq (y_bare (y_loads (cs := [_, _]) Tryd.isAgg23 Tryd.sizeOf23 rfl rfl (cells_box 0 rfl))) rfl rfl rfl ?_
    refine gq_on rfl rfl rfl rfl hg52 ?_
    refine gq (y_bare (y_bin (vx := .agg #[_, _]) (vy := .agg #[_, _]) rfl rfl (fun w => eg23 _ _ _ _ _ w) (fun w => ne23 _ _ _ _ w))) rfl rfl rfl ?_
    refine gq (y_pick_f (v := .bool _) rfl hg52 rfl) rfl rfl rfl ?_
    refine gqs_nil ?_
    refine hN8 _ _ ?_
    refine gfrom [(0, .slice _ _ _), (1, .slice _ _ _), (2, .string _), (3, .slice _ _ _), (9, .pointer _), (10, .slice _ _ _), (11, .pointer _), (12, .slice _ _ _), (13, .pointer _), (14, .slice _ _ _), (15, .pointer _), (16, .slice _ _ _), (17, .pointer _), (57, .bool _)] ⟨rfl, rfl, rfl, rfl, rfl, rfl, rfl, rfl, rfl, rfl, rfl, rfl, rfl, rfl, trivial⟩ fun σ => ?_
    refine gcond (b := _) rfl (fun hc57 => ?_) (fun hc57 => ?_)
    · 
       simp at hc57
    · 
      refine gskip ?_
      refine hN7 _ _ ?_
      refine gfrom [(0, .slice _ _ _), (1, .slice _ _ _), (2, .string _), (3, .slice _ _ _), (9, .pointer _), (10, .slice _ _ _), (11, .pointer _), (12, .slice _ _ _), (13, .pointer _), (14, .slice _ _ _), (15, .pointer _), (16, .slice _ _ _), (17, .pointer _)] ⟨rfl, rfl, rfl, rfl, rfl, rfl, rfl, rfl, rfl, rfl, rfl, rfl, rfl, trivial⟩ fun σ => ?_
      refine gseq fun N9 hN9 => ?_
      refine greg ?_
      refine gop (y_move (v := .slice _ _ _) rfl) rfl rfl rfl ?_
      refine gop_pure (e_call (vs := [.slice _ _ _]) Tryd.func29 rfl (by kernel_rfl) rfl) (fun w hM => linesValidate_any w TA tc text (ht.base hM) (Nat.le_trans htl htm)) rfl rfl rfl ?_
      refine gop_alloc (cs := #[.int .i64 0, .int .i64 0]) Tryd.zeroValue23 rfl rfl (fun b18 hb18 => ?_)
      refine gop_store 11 (v := .agg #[_, _]) (cs' := #[_, _]) rfl rfl Tryd.sizeOf23 rfl rfl rfl rfl (Nat.le_of_ble_eq_true rfl) rfl rfl ?_
      refine gops_nil ?_
      refine hN9 _ _ ?_
      refine gT [box b9 _, rowl _ _ _ _ _ _, fr30, box b11 _, rowl _ _ _ _ _ _, box b13 _, rowl _ _ _ _ _ _, box b15 _, rowl _ _ _ _ _ _, fr, box b17 _, box b18 _] rfl ?_
      refine gfrom [(0, .slice _ _ _), (1, .slice _ _ _), (2, .string _), (3, .slice _ _ _), (9, .pointer _), (10, .slice _ _ _), (11, .pointer _), (12, .slice _ _ _), (13, .pointer _), (14, .slice _ _ _), (15, .pointer _), (16, .slice _ _ _), (17, .pointer _), (18, .pointer _)] ⟨rfl, rfl, rfl, rfl, rfl, rfl, rfl, rfl, rfl, rfl, rfl, rfl, rfl, rfl, trivial⟩ fun σ => ?_
      refine gseq fun N10 hN10 => ?_
      refine greg ?_
      refine gop (y_assign (v := .slice none 0 0) rfl) rfl rfl rfl ?_
      refine gops_nilrow ruleCells 32 2 ?_
      refine gops_emp ?_
      refine gops_nil ?_
      refine hN10 _ _ ?_
      refine gT [box b9 _, rowl _ _ _ _ _ _, fr30, box b11 _, rowl _ _ _ _ _ _, box b13 _, rowl _ _ _ _ _ _, box b15 _, rowl _ _ _ _ _ _, fr, box b17 _, box b18 _, rowl _ _ _ _ _ _, emp] rfl ?_
      refine gfrom [(0, .slice _ _ _), (1, .slice _ _ _), (2, .string _), (3, .slice _ _ _), (9, .pointer _), (10, .slice _ _ _), (11, .pointer _), (12, .slice _ _ _), (13, .pointer _), (14, .slice _ _ _), (15, .pointer _), (16, .slice _ _ _), (17, .pointer _), (18, .pointer _), (19, .slice none 0 0)] ⟨rfl, rfl, rfl, rfl, rfl, rfl, rfl, rfl, rfl, rfl, rfl, rfl, rfl, rfl, rfl, trivial⟩ fun σ => ?_
      refine gseq fun N11 hN11 => ?_
      refine gfrom [(0, .slice _ _ _), (1, .slice _ _ _), (2, .string _), (3, .slice _ _ _), (9, .pointer _), (10, .slice _ _ _), (11, .pointer _), (12, .slice _ _ _), (13, .pointer _), (14, .slice _ _ _), (15, .pointer _), (16, .slice _ _ _), (17, .pointer _), (18, .pointer _), (19, .slice none 0 0)] ⟨rfl, rfl, rfl, rfl, rfl, rfl, rfl, rfl, rfl, rfl, rfl, rfl, rfl, rfl, rfl, trivial⟩ fun σ => ?_
      refine gcut3 (Lf := [(0, .slice _ _ _), (2, .string _), (3, .slice _ _ _), (9, .pointer _), (10, .slice _ _ _), (11, .pointer _), (12, .slice _ _ _), (13, .pointer _), (14, .slice _ _ _), (15, .pointer _), (16, .slice _ _ _), (17, .pointer _), (18, .pointer _)]) (G := Fault × Option Addr × Nat × List RuleC × Reg) (fun (p, Av, cv, rn, fw) => rn.length ≤ text.length ∧ (∃ k, Reading text k p (rls rn) ∧ ¬ (k < text.length ∧ p.code = 0)) ∧ ∀ w1, fw.ok w1 → ∀ a ∈ rn, RuleR w1 0 a) (fun (p, Av, cv, rn, fw) => [(19, .slice Av rn.length cv)]) (fun (p, Av, cv, rn, fw) => [(11, box b18 (.cells #[.int .i64 (p).code, .int .i64 (p).index] 23)), (12, rowl ruleCells w.heap.size 32 2 (.slice Av rn.length cv) (rn)), (13, fw)]) ⟨rfl, rfl, rfl, rfl, rfl, rfl, rfl, rfl, rfl, rfl, rfl, rfl, rfl, trivial⟩ ?_ ?_
      ·
        refine gseq fun N12 hN12 => ?_
        refine greg ?_
        refine gop (y_assign (v := .int _ _) rfl) rfl rfl rfl ?_
        refine gops_nil ?_
        refine hN12 _ _ ?_
        refine gfrom [(0, .slice _ _ _), (1, .slice _ _ _), (2, .string _), (3, .slice _ _ _), (9, .pointer _), (10, .slice _ _ _), (11, .pointer _), (12, .slice _ _ _), (13, .pointer _), (14, .slice _ _ _), (15, .pointer _), (16, .slice _ _ _), (17, .pointer _), (18, .pointer _), (19, .slice none 0 0), (20, .int _ _)] ⟨rfl, rfl, rfl, rfl, rfl, rfl, rfl, rfl, rfl, rfl, rfl, rfl, rfl, rfl, rfl, rfl, trivial⟩ fun σ => ?_
        refine gblock ?_
        refine gfrom2 [(19, .slice none 0 0), (20, .int _ _)] [(0, .slice _ _ _), (1, .slice _ _ _), (2, .string _), (3, .slice _ _ _), (9, .pointer _), (10, .slice _ _ _), (11, .pointer _), (12, .slice _ _ _), (13, .pointer _), (14, .slice _ _ _), (15, .pointer _), (16, .slice _ _ _), (17, .pointer _), (18, .pointer _)] ⟨rfl, rfl, trivial⟩ ⟨rfl, rfl, rfl, rfl, rfl, rfl, rfl, rfl, rfl, rfl, rfl, rfl, rfl, rfl, trivial⟩ fun σ => ?_
        refine gloop2 (G := Nat × Fault × Option Addr × Nat × List RuleC × Reg) (fun (k, p, Av, cv, rn, fw) => k ≤ text.length ∧ rn.length ≤ k ∧ Reading text k p (rls rn) ∧ ∀ w1, fw.ok w1 → ∀ a ∈ rn, RuleR w1 0 a) (fun (k, p, Av, cv, rn, fw) => text.length - k) (fun (k, p, Av, cv, rn, fw) => [(19, .slice Av rn.length cv), (20, .int .i64 (k : Int))]) (fun (k, p, Av, cv, rn, fw) => [(11, box b18 (.cells #[.int .i64 (p).code, .int .i64 (p).index] 23)), (12, rowl ruleCells w.heap.size 32 2 (.slice Av rn.length cv) (rn)), (13, fw)]) ((0, linesF text, none, 0, [], emp)) ?h0 ⟨rfl, rfl, trivial⟩ ⟨rfl, rfl, rfl, rfl, rfl, rfl, rfl, rfl, rfl, rfl, rfl, rfl, rfl, rfl, trivial⟩ rfl ?round
        case h0 => exact ⟨Nat.zero_le _, Nat.zero_le _, Reading.zero text, fun _ _ _ h => (by cases h)⟩
        case round =>
          rintro ⟨k, p, Av, cv, rn, fw⟩ hφ σ
          obtain ⟨hk, hrnk, hRd, hfw⟩ := hφ
          refine gT [box b9 _, rowl _ _ _ _ _ _, fr30, box b11 _, rowl _ _ _ _ _ _, box b13 _, rowl _ _ _ _ _ _, box b15 _, rowl _ _ _ _ _ _, fr, box b17 _, box _ _, rowl _ _ _ _ _ _, fw] rfl ?_
          refine gseq fun N13 hN13 => ?_
          refine gseq fun N14 hN14 => ?_
          refine greg ?_
          refine gop (y_move (v := .int _ _) rfl) rfl rfl rfl ?_
          refine gop (y_move (v := .slice _ _ _) rfl) rfl rfl rfl ?_
          refine gop (y_len Tryd.underlying37 rfl) rfl rfl rfl ?_
          refine gop (y_lss rfl rfl) rfl rfl rfl ?_
          refine gop (y_move (v := .bool _) rfl) rfl rfl rfl ?_
          refine gop_if (want := true) rfl rfl rfl rfl rfl rfl (fun hg64 => ?_) (fun hg64 => ?_)
          · 
            have hg64d := of_decide_eq_true hg64
            refine gop (y_bare (y_fieldAddr_box fa23_0 rfl)) rfl rfl rfl ?_
            refine gop_on rfl rfl rfl rfl hg64 ?_
            refine gop (y_bare (y_load Tryd.isAgg3 rfl (cell_box 11 rfl rfl))) rfl rfl rfl ?_
            refine gop_on rfl rfl rfl rfl hg64 ?_
            refine gop (y_bare (y_eql rfl rfl)) rfl rfl rfl ?_
            refine gop (y_pick_t (v := .bool _) rfl hg64 rfl) rfl rfl rfl ?_
            refine gops_nil ?_
            refine hN14 _ _ ?_
            refine gfrom [(0, .slice _ _ _), (1, .slice _ _ _), (2, .string _), (3, .slice _ _ _), (9, .pointer _), (10, .slice _ _ _), (11, .pointer _), (12, .slice _ _ _), (13, .pointer _), (14, .slice _ _ _), (15, .pointer _), (16, .slice _ _ _), (17, .pointer _), (18, .pointer _), (19, .slice Av _ cv), (20, .int _ _), (68, .bool _)] ⟨rfl, rfl, rfl, rfl, rfl, rfl, rfl, rfl, rfl, rfl, rfl, rfl, rfl, rfl, rfl, rfl, rfl, trivial⟩ fun σ => ?_
            refine gcond (b := _) rfl (fun hc68 => ?_) (fun hc68 => ?_)
            · 
              replace hc68 := of_decide_eq_true hc68
              have hk1 : k < text.length := by omega
              obtain ⟨ad, rfl, -, hca⟩ := ht.at_ hk1
              have hls := line_size (hRd.good hc68).2.1
              have hl120 := hls.1
              refine gskip ?_
              refine hN13 _ _ ?_
              refine gfrom [(0, .slice _ _ _), (1, .slice _ _ _), (2, .string _), (3, .slice _ _ _), (9, .pointer _), (10, .slice _ _ _), (11, .pointer _), (12, .slice _ _ _), (13, .pointer _), (14, .slice _ _ _), (15, .pointer _), (16, .slice _ _ _), (17, .pointer _), (18, .pointer _), (19, .slice Av _ cv), (20, .int _ _)] ⟨rfl, rfl, rfl, rfl, rfl, rfl, rfl, rfl, rfl, rfl, rfl, rfl, rfl, rfl, rfl, rfl, trivial⟩ fun σ => ?_
              refine gseq fun N15 hN15 => ?_
              refine gblock ?_
              refine gseq fun N16 hN16 => ?_
              refine gseq fun N17 hN17 => ?_
              refine greg ?_
              refine gop (y_move (v := .slice _ _ _) rfl) rfl rfl rfl ?_
              refine gop (y_move (v := .int _ _) rfl) rfl rfl rfl ?_
              refine gop (y_indexAddr (m := k) Tryd.underlying37 Tryd.sizeOf9 rfl rfl (by omega) (by omega) (by omega)) rfl rfl rfl ?_
              refine gop (y_load Tryd.isAgg9 rfl (cell_base (hca 0 _ rfl))) rfl rfl rfl ?_
              refine gop (y_eqls rfl rfl) rfl rfl rfl ?_
              refine gop (y_move (v := .bool _) rfl) rfl rfl rfl ?_
              refine gop_if (want := false) rfl rfl rfl rfl rfl rfl (fun hg76 => ?_) (fun hg76 => ?_)
              · 
                have hg76d := hg76
                have hsz : 0 < text[k].size := str_pos hg76d
                refine gop (y_bare (y_move (v := .slice _ _ _) rfl)) rfl rfl rfl ?_
                refine gop_on rfl rfl rfl rfl hg76 ?_
                refine gop (y_bare (y_move (v := .int _ _) rfl)) rfl rfl rfl ?_
                refine gop_on rfl rfl rfl rfl hg76 ?_
                refine gop (y_bare (y_indexAddr (m := k) Tryd.underlying37 Tryd.sizeOf9 rfl rfl (by omega) (by omega) (by omega))) rfl rfl rfl ?_
                refine gop_on rfl rfl rfl rfl hg76 ?_
                refine gop (y_bare (y_load Tryd.isAgg9 rfl (cell_base (hca 0 _ rfl)))) rfl rfl rfl ?_
                refine gop_on rfl rfl rfl rfl hg76 ?_
                refine gop (y_bare (y_stridx (m := 0) Tryd.underlying9 rfl rfl (by omega) (by omega) (by omega))) rfl rfl rfl ?_
                refine gop_on rfl rfl rfl rfl hg76 ?_
                refine gop (y_bare (y_eql rfl rfl)) rfl rfl rfl ?_
                refine gop (y_pick_f (v := .bool _) rfl hg76 rfl) rfl rfl rfl ?_
                refine gops_nil ?_
                refine hN17 _ _ ?_
                refine gfrom [(0, .slice _ _ _), (1, .slice _ _ _), (2, .string _), (3, .slice _ _ _), (9, .pointer _), (10, .slice _ _ _), (11, .pointer _), (12, .slice _ _ _), (13, .pointer _), (14, .slice _ _ _), (15, .pointer _), (16, .slice _ _ _), (17, .pointer _), (18, .pointer _), (19, .slice Av _ cv), (20, .int _ _), (83, .bool _)] ⟨rfl, rfl, rfl, rfl, rfl, rfl, rfl, rfl, rfl, rfl, rfl, rfl, rfl, rfl, rfl, rfl, rfl, trivial⟩ fun σ => ?_
                refine gcond (b := _) rfl (fun hc83 => ?_) (fun hc83 => ?_)
                · 
                  replace hc83 := of_decide_eq_true hc83
                  have hsk : skipL text[k] = true := by first | (unfold skipL; rw [show strEq text[k] ⟨#[]⟩ = true from hg76d]; rfl) | (unfold skipL; rw [decide_eq_true (show byteAt text[k] 0 = 35 by omega)]; simp)
                  refine gexit ?_
                  refine hN15 _ _ ?_
                  refine gfrom [(0, .slice _ _ _), (1, .slice _ _ _), (2, .string _), (3, .slice _ _ _), (9, .pointer _), (10, .slice _ _ _), (11, .pointer _), (12, .slice _ _ _), (13, .pointer _), (14, .slice _ _ _), (15, .pointer _), (16, .slice _ _ _), (17, .pointer _), (18, .pointer _), (19, .slice Av _ cv), (20, .int _ _)] ⟨rfl, rfl, rfl, rfl, rfl, rfl, rfl, rfl, rfl, rfl, rfl, rfl, rfl, rfl, rfl, rfl, trivial⟩ fun σ => ?_
                  refine greg ?_
                  refine gop (y_move (v := .int _ _) rfl) rfl rfl rfl ?_
                  refine gop (y_add rfl rfl ⟨by omega, by omega⟩) rfl rfl rfl ?_
                  refine gop (y_assign (v := .int _ _) rfl) rfl rfl rfl ?_
                  refine gops_nil ?_
                  refine gnext2 ((k + 1, p, Av, cv, rn, fw)) (by show text.length - (k + 1) < text.length - k; omega) (⟨by show k + 1 ≤ _; omega, by show rn.length ≤ k + 1; omega, hRd.skip hc68 hk1 hsk, hfw⟩) ⟨rfl, rfl, trivial⟩ ⟨rfl, rfl, rfl, rfl, rfl, rfl, rfl, rfl, rfl, rfl, rfl, rfl, rfl, rfl, trivial⟩ ⟨_, rfl⟩
                  skip
                · 
                  replace hc83 := of_decide_eq_false hc83
                  have hsk : skipL text[k] = false := by unfold skipL; rw [show strEq text[k] ⟨#[]⟩ = false from hg76d, decide_eq_false (show ¬ byteAt text[k] 0 = 35 by omega)]; rfl
                  refine gskip ?_
                  refine hN16 _ _ ?_
                  refine gfrom [(0, .slice _ _ _), (1, .slice _ _ _), (2, .string _), (3, .slice _ _ _), (9, .pointer _), (10, .slice _ _ _), (11, .pointer _), (12, .slice _ _ _), (13, .pointer _), (14, .slice _ _ _), (15, .pointer _), (16, .slice _ _ _), (17, .pointer _), (18, .pointer _), (19, .slice Av _ cv), (20, .int _ _)] ⟨rfl, rfl, rfl, rfl, rfl, rfl, rfl, rfl, rfl, rfl, rfl, rfl, rfl, rfl, rfl, rfl, trivial⟩ fun σ => ?_
                  refine gseq fun N18 hN18 => ?_
                  refine greg ?_
                  refine gop (y_move (v := .slice _ _ _) rfl) rfl rfl rfl ?_
                  refine gop (y_move (v := .int _ _) rfl) rfl rfl rfl ?_
                  refine gop (y_indexAddr (m := k) Tryd.underlying37 Tryd.sizeOf9 rfl rfl (by omega) (by omega) (by omega)) rfl rfl rfl ?_
                  refine gop (y_load Tryd.isAgg9 rfl (cell_base (hca 0 _ rfl))) rfl rfl rfl ?_
                  refine gop_got (fun v T' => ∃ A1 c1 r lo, w.heap.size ≤ lo ∧ v = .tuple #[.agg #[.string r.pat, .slice A1 r.users.length c1], .int .i64 (lineC text[k])] ∧ (lineC text[k] = 0 → r = lineR text[k]) ∧ r.users.length ≤ text[k].size ∧ T' = [rowl intCells lo 3 1 (.slice A1 r.users.length c1) (r.users)]) (e_call (vs := [.string _]) Tryd.func30 rfl (by kernel_rfl) rfl) (fun w hM => (readRule_any w text[k] (by have h9 := (hls.2 k hk1).2; omega)).mono fun _ _ ⟨A1, c1, r, T1, h1, h2, h3, h4, h5⟩ => ⟨_, T1, h1, ⟨A1, c1, r, _, hM.low.size, rfl, h2, h3, h4⟩, h5⟩) rfl rfl rfl ?_
                  rintro _ _ ⟨A89, c89, r89, lo89, hlo89, rfl, hr89, hl89, rfl⟩
                  refine gops_mem _ (weak_lower 14 rfl hlo89) ?_
                  refine gop (y_move (v := .tuple #[.agg #[_, _], .int _ _]) rfl) rfl rfl rfl ?_
                  refine gop (y_extract (v := .agg #[_, _]) rfl rfl) rfl rfl rfl ?_
                  refine gop (y_extract (v := .int _ _) rfl rfl) rfl rfl rfl ?_
                  refine gop_alloc (cs := #[.string .empty, .slice none 0 0]) Tryd.zeroValue32 rfl rfl (fun b21 hb21 => ?_)
                  refine gop_store 15 (v := .agg #[_, _]) (cs' := #[_, _]) rfl rfl Tryd.sizeOf32 rfl rfl rfl rfl (Nat.le_of_ble_eq_true rfl) rfl rfl ?_
                  refine gop (y_assign (v := .int _ _) rfl) rfl rfl rfl ?_
                  refine gops_nil ?_
                  refine hN18 _ _ ?_
                  refine gT [box b9 _, rowl _ _ _ _ _ _, fr30, box b11 _, rowl _ _ _ _ _ _, box b13 _, rowl _ _ _ _ _ _, box b15 _, rowl _ _ _ _ _ _, fr, box b17 _, box _ _, rowl _ _ _ _ _ _, fw, rowl _ _ _ _ _ _, box b21 _] rfl ?_
                  refine gfrom [(0, .slice _ _ _), (1, .slice _ _ _), (2, .string _), (3, .slice _ _ _), (9, .pointer _), (10, .slice _ _ _), (11, .pointer _), (12, .slice _ _ _), (13, .pointer _), (14, .slice _ _ _), (15, .pointer _), (16, .slice _ _ _), (17, .pointer _), (18, .pointer _), (19, .slice Av _ cv), (20, .int _ _), (21, .pointer _), (22, .int _ _)] ⟨rfl, rfl, rfl, rfl, rfl, rfl, rfl, rfl, rfl, rfl, rfl, rfl, rfl, rfl, rfl, rfl, rfl, rfl, trivial⟩ fun σ => ?_
                  refine gseq fun N19 hN19 => ?_
                  refine gseq fun N20 hN20 => ?_
                  refine greg ?_
                  refine gop (y_move (v := .int _ _) rfl) rfl rfl rfl ?_
                  refine gop (y_neq rfl rfl) rfl rfl rfl ?_
                  refine gops_nil ?_
                  refine hN20 _ _ ?_
                  refine gfrom [(0, .slice _ _ _), (1, .slice _ _ _), (2, .string _), (3, .slice _ _ _), (9, .pointer _), (10, .slice _ _ _), (11, .pointer _), (12, .slice _ _ _), (13, .pointer _), (14, .slice _ _ _), (15, .pointer _), (16, .slice _ _ _), (17, .pointer _), (18, .pointer _), (19, .slice Av _ cv), (20, .int _ _), (21, .pointer _), (22, .int _ _), (93, .bool _)] ⟨rfl, rfl, rfl, rfl, rfl, rfl, rfl, rfl, rfl, rfl, rfl, rfl, rfl, rfl, rfl, rfl, rfl, rfl, rfl, trivial⟩ fun σ => ?_
                  refine gcond (b := _) rfl (fun hc93 => ?_) (fun hc93 => ?_)
                  · 
                    replace hc93 := of_decide_eq_true hc93
                    refine greg ?_
                    refine gop (y_move (v := .int _ _) rfl) rfl rfl rfl ?_
                    refine gop (y_move (v := .int _ _) rfl) rfl rfl rfl ?_
                    refine gop_pure (e_call (vs := [.int _ _, .int _ _]) Tryd.func31 rfl (by kernel_rfl) rfl) (fun w hM => fault_any w _ _) rfl rfl rfl ?_
                    refine gop_store 11 (v := .agg #[_, _]) (cs' := #[_, _]) rfl rfl Tryd.sizeOf23 rfl rfl rfl rfl (Nat.le_of_ble_eq_true rfl) rfl rfl ?_
                    refine gops_nil ?_
                    refine hN19 _ _ ?_
                    refine gT [box b9 _, rowl _ _ _ _ _ _, fr30, box b11 _, rowl _ _ _ _ _ _, box b13 _, rowl _ _ _ _ _ _, box b15 _, rowl _ _ _ _ _ _, fr, box b17 _, box _ _, rowl _ _ _ _ _ _, fw, rowl _ _ _ _ _ _, box b21 _] rfl ?_
                    refine gfrom [(0, .slice _ _ _), (1, .slice _ _ _), (2, .string _), (3, .slice _ _ _), (9, .pointer _), (10, .slice _ _ _), (11, .pointer _), (12, .slice _ _ _), (13, .pointer _), (14, .slice _ _ _), (15, .pointer _), (16, .slice _ _ _), (17, .pointer _), (18, .pointer _), (19, .slice Av _ cv), (20, .int _ _), (21, .pointer _)] ⟨rfl, rfl, rfl, rfl, rfl, rfl, rfl, rfl, rfl, rfl, rfl, rfl, rfl, rfl, rfl, rfl, rfl, trivial⟩ fun σ => ?_
                    refine greg ?_
                    refine gop (y_move (v := .slice Av _ cv) rfl) rfl rfl rfl ?_
                    refine gop (y_loads (cs := [_, _]) Tryd.isAgg32 Tryd.sizeOf32 rfl rfl (cells_box 15 rfl)) rfl rfl rfl ?_
                    refine gop_lit (vs := [.agg #[_, _]]) (cells := #[_, _]) Tryd.underlying29 Tryd.sizeOf32 Tryd.zeroValue32 rfl (by decide) (by decide) rfl rfl rfl rfl (fun b99 hb99 => ?_)
                    refine gop_append 12 (f := ruleCells) (l2 := [⟨r89, A89, c89⟩]) Tryd.underlying29 el32 wide_rule (v := .slice Av _ cv) rfl rfl rfl rfl (fun h => by cases h) (by simp [maxLen]; omega) (by simp; omega) (src_box 16 rfl rfl) rfl (fun v100 => ?_)
                    refine gops_fact (fun w hM => own_form (hM.own 12 rfl)) ?_
                    rintro ⟨A100, c100, rfl, hc100, hm100⟩
                    refine gop (y_assign (v := .slice A100 _ c100) rfl) rfl rfl rfl ?_
                    refine gops_nil ?_
                    refine hN15 _ _ ?_
                    refine gT [box b9 _, rowl _ _ _ _ _ _, fr30, box b11 _, rowl _ _ _ _ _ _, box b13 _, rowl _ _ _ _ _ _, box b15 _, rowl _ _ _ _ _ _, fr, box b17 _, box _ _, rowl _ _ _ _ _ _, fw, rowl _ _ _ _ _ _, box b21 _, box b99 _] rfl ?_
                    refine gfrom [(0, .slice _ _ _), (1, .slice _ _ _), (2, .string _), (3, .slice _ _ _), (9, .pointer _), (10, .slice _ _ _), (11, .pointer _), (12, .slice _ _ _), (13, .pointer _), (14, .slice _ _ _), (15, .pointer _), (16, .slice _ _ _), (17, .pointer _), (18, .pointer _), (19, .slice A100 _ c100), (20, .int _ _)] ⟨rfl, rfl, rfl, rfl, rfl, rfl, rfl, rfl, rfl, rfl, rfl, rfl, rfl, rfl, rfl, rfl, trivial⟩ fun σ => ?_
                    refine greg ?_
                    refine gop (y_move (v := .int _ _) rfl) rfl rfl rfl ?_
                    refine gop (y_add rfl rfl ⟨by omega, by omega⟩) rfl rfl rfl ?_
                    refine gop (y_assign (v := .int _ _) rfl) rfl rfl rfl ?_
                    refine gops_nil ?_
                    refine fin_mem _ (weak_all 14 13 rfl) ?_
                    refine gnext2 ((k + 1, ⟨lineC text[k], k⟩, A100, c100, rn ++ [⟨r89, A89, c89⟩], both fw (all_ [_, _, _]))) (by show text.length - (k + 1) < text.length - k; omega) (⟨by show k + 1 ≤ _; omega, by simp; omega, hRd.bad hc68 hk1 hsk hc93 _, fun w1 ho a ha => ?hr⟩) ⟨rfl, rfl, trivial⟩ ⟨rfl, rfl, rfl, rfl, rfl, rfl, rfl, rfl, rfl, rfl, rfl, rfl, rfl, rfl, trivial⟩ ⟨_, rfl⟩
                    case hr =>
                      rcases List.mem_append.1 ha with ha | ha
                      · exact hfw w1 ho.1 a ha
                      · obtain rfl := List.mem_singleton.1 ha
                        exact (ruleR_row (pat := r89.pat) ho.2.1 (Nat.le_trans (show r89.users.length * 8 ≤ 40000000 by have h8 := (hls.2 k hk1).2; omega) (by decide))).mono (Nat.zero_le _)
                  · 
                    replace hc93 := Decidable.not_not.1 (of_decide_eq_false hc93)
                    refine gskip ?_
                    refine hN19 _ _ ?_
                    refine gfrom [(0, .slice _ _ _), (1, .slice _ _ _), (2, .string _), (3, .slice _ _ _), (9, .pointer _), (10, .slice _ _ _), (11, .pointer _), (12, .slice _ _ _), (13, .pointer _), (14, .slice _ _ _), (15, .pointer _), (16, .slice _ _ _), (17, .pointer _), (18, .pointer _), (19, .slice Av _ cv), (20, .int _ _), (21, .pointer _)] ⟨rfl, rfl, rfl, rfl, rfl, rfl, rfl, rfl, rfl, rfl, rfl, rfl, rfl, rfl, rfl, rfl, rfl, trivial⟩ fun σ => ?_
                    refine greg ?_
                    refine gop (y_move (v := .slice Av _ cv) rfl) rfl rfl rfl ?_
                    refine gop (y_loads (cs := [_, _]) Tryd.isAgg32 Tryd.sizeOf32 rfl rfl (cells_box 15 rfl)) rfl rfl rfl ?_
                    refine gop_lit (vs := [.agg #[_, _]]) (cells := #[_, _]) Tryd.underlying29 Tryd.sizeOf32 Tryd.zeroValue32 rfl (by decide) (by decide) rfl rfl rfl rfl (fun b99 hb99 => ?_)
                    refine gop_append 12 (f := ruleCells) (l2 := [⟨r89, A89, c89⟩]) Tryd.underlying29 el32 wide_rule (v := .slice Av _ cv) rfl rfl rfl rfl (fun h => by cases h) (by simp [maxLen]; omega) (by simp; omega) (src_box 16 rfl rfl) rfl (fun v100 => ?_)
                    refine gops_fact (fun w hM => own_form (hM.own 12 rfl)) ?_
                    rintro ⟨A100, c100, rfl, hc100, hm100⟩
                    refine gop (y_assign (v := .slice A100 _ c100) rfl) rfl rfl rfl ?_
                    refine gops_nil ?_
                    refine hN15 _ _ ?_
                    refine gT [box b9 _, rowl _ _ _ _ _ _, fr30, box b11 _, rowl _ _ _ _ _ _, box b13 _, rowl _ _ _ _ _ _, box b15 _, rowl _ _ _ _ _ _, fr, box b17 _, box _ _, rowl _ _ _ _ _ _, fw, rowl _ _ _ _ _ _, box b21 _, box b99 _] rfl ?_
                    refine gfrom [(0, .slice _ _ _), (1, .slice _ _ _), (2, .string _), (3, .slice _ _ _), (9, .pointer _), (10, .slice _ _ _), (11, .pointer _), (12, .slice _ _ _), (13, .pointer _), (14, .slice _ _ _), (15, .pointer _), (16, .slice _ _ _), (17, .pointer _), (18, .pointer _), (19, .slice A100 _ c100), (20, .int _ _)] ⟨rfl, rfl, rfl, rfl, rfl, rfl, rfl, rfl, rfl, rfl, rfl, rfl, rfl, rfl, rfl, rfl, trivial⟩ fun σ => ?_
                    refine greg ?_
                    refine gop (y_move (v := .int _ _) rfl) rfl rfl rfl ?_
                    refine gop (y_add rfl rfl ⟨by omega, by omega⟩) rfl rfl rfl ?_
                    refine gop (y_assign (v := .int _ _) rfl) rfl rfl rfl ?_
                    refine gops_nil ?_
                    refine fin_mem _ (weak_all 14 13 rfl) ?_
                    refine gnext2 ((k + 1, p, A100, c100, rn ++ [⟨r89, A89, c89⟩], both fw (all_ [_, _, _]))) (by show text.length - (k + 1) < text.length - k; omega) (⟨by show k + 1 ≤ _; omega, by simp; omega, by rw [hr89 hc93]; have h7 := hRd.rule hc68 hk1 hsk hc93; simpa using h7, fun w1 ho a ha => ?hr⟩) ⟨rfl, rfl, trivial⟩ ⟨rfl, rfl, rfl, rfl, rfl, rfl, rfl, rfl, rfl, rfl, rfl, rfl, rfl, rfl, trivial⟩ ⟨_, rfl⟩
                    case hr =>
                      rcases List.mem_append.1 ha with ha | ha
                      · exact hfw w1 ho.1 a ha
                      · obtain rfl := List.mem_singleton.1 ha
                        exact (ruleR_row (pat := r89.pat) ho.2.1 (Nat.le_trans (show r89.users.length * 8 ≤ 40000000 by have h8 := (hls.2 k hk1).2; omega) (by decide))).mono (Nat.zero_le _)
              · 
                have hg76d := hg76
                refine gop_off rfl rfl rfl rfl hg76 rfl rfl ?_
                refine gop_off rfl rfl rfl rfl hg76 rfl rfl ?_
                refine gop_off rfl rfl rfl rfl hg76 rfl rfl ?_
                refine gop_off rfl rfl rfl rfl hg76 rfl rfl ?_
                refine gop_off rfl rfl rfl rfl hg76 rfl rfl ?_
                refine gop (y_pick_t (v := .bool _) rfl hg76 rfl) rfl rfl rfl ?_
                refine gops_nil ?_
                refine hN17 _ _ ?_
                refine gfrom [(0, .slice _ _ _), (1, .slice _ _ _), (2, .string _), (3, .slice _ _ _), (9, .pointer _), (10, .slice _ _ _), (11, .pointer _), (12, .slice _ _ _), (13, .pointer _), (14, .slice _ _ _), (15, .pointer _), (16, .slice _ _ _), (17, .pointer _), (18, .pointer _), (19, .slice Av _ cv), (20, .int _ _), (83, .bool _)] ⟨rfl, rfl, rfl, rfl, rfl, rfl, rfl, rfl, rfl, rfl, rfl, rfl, rfl, rfl, rfl, rfl, rfl, trivial⟩ fun σ => ?_
                refine gcond (b := _) rfl (fun hc83 => ?_) (fun hc83 => ?_)
                · 
                  have hsk : skipL text[k] = true := by first | (unfold skipL; rw [show strEq text[k] ⟨#[]⟩ = true from hg76d]; rfl) | (unfold skipL; rw [decide_eq_true (show byteAt text[k] 0 = 35 by omega)]; simp)
                  refine gexit ?_
                  refine hN15 _ _ ?_
                  refine gfrom [(0, .slice _ _ _), (1, .slice _ _ _), (2, .string _), (3, .slice _ _ _), (9, .pointer _), (10, .slice _ _ _), (11, .pointer _), (12, .slice _ _ _), (13, .pointer _), (14, .slice _ _ _), (15, .pointer _), (16, .slice _ _ _), (17, .pointer _), (18, .pointer _), (19, .slice Av _ cv), (20, .int _ _)] ⟨rfl, rfl, rfl, rfl, rfl, rfl, rfl, rfl, rfl, rfl, rfl, rfl, rfl, rfl, rfl, rfl, trivial⟩ fun σ => ?_
                  refine greg ?_
                  refine gop (y_move (v := .int _ _) rfl) rfl rfl rfl ?_
                  refine gop (y_add rfl rfl ⟨by omega, by omega⟩) rfl rfl rfl ?_
                  refine gop (y_assign (v := .int _ _) rfl) rfl rfl rfl ?_
                  refine gops_nil ?_
                  refine gnext2 ((k + 1, p, Av, cv, rn, fw)) (by show text.length - (k + 1) < text.length - k; omega) (⟨by show k + 1 ≤ _; omega, by show rn.length ≤ k + 1; omega, hRd.skip hc68 hk1 hsk, hfw⟩) ⟨rfl, rfl, trivial⟩ ⟨rfl, rfl, rfl, rfl, rfl, rfl, rfl, rfl, rfl, rfl, rfl, rfl, rfl, rfl, trivial⟩ ⟨_, rfl⟩
                  skip
                · 
                  cases hc83
            · 
              replace hc68 := of_decide_eq_false hc68
              have hst : ¬ (k < text.length ∧ p.code = 0) := fun h => by omega
              refine gexit ?_
              refine gcut3_end ((p, Av, cv, rn, fw)) (⟨by show rn.length ≤ _; omega, ⟨k, hRd, hst⟩, hfw⟩) ⟨rfl, trivial⟩ ⟨rfl, rfl, rfl, rfl, rfl, rfl, rfl, rfl, rfl, rfl, rfl, rfl, rfl, trivial⟩ ⟨_, rfl⟩
          · 
            have hg64d := of_decide_eq_false hg64
            refine gop_off rfl rfl rfl rfl hg64 rfl rfl ?_
            refine gop_off rfl rfl rfl rfl hg64 rfl rfl ?_
            refine gop (y_pick_f (v := .bool _) rfl hg64 rfl) rfl rfl rfl ?_
            refine gops_nil ?_
            refine hN14 _ _ ?_
            refine gfrom [(0, .slice _ _ _), (1, .slice _ _ _), (2, .string _), (3, .slice _ _ _), (9, .pointer _), (10, .slice _ _ _), (11, .pointer _), (12, .slice _ _ _), (13, .pointer _), (14, .slice _ _ _), (15, .pointer _), (16, .slice _ _ _), (17, .pointer _), (18, .pointer _), (19, .slice Av _ cv), (20, .int _ _), (68, .bool _)] ⟨rfl, rfl, rfl, rfl, rfl, rfl, rfl, rfl, rfl, rfl, rfl, rfl, rfl, rfl, rfl, rfl, rfl, trivial⟩ fun σ => ?_
            refine gcond (b := _) rfl (fun hc68 => ?_) (fun hc68 => ?_)
            · 
              cases hc68
            · 
              have hst : ¬ (k < text.length ∧ p.code = 0) := fun h => by omega
              refine gexit ?_
              refine gcut3_end ((p, Av, cv, rn, fw)) (⟨by show rn.length ≤ _; omega, ⟨k, hRd, hst⟩, hfw⟩) ⟨rfl, trivial⟩ ⟨rfl, rfl, rfl, rfl, rfl, rfl, rfl, rfl, rfl, rfl, rfl, rfl, rfl, trivial⟩ ⟨_, rfl⟩
      ·
        rintro ⟨p, Av, cv, rn, fw⟩ hcut σ
        refine hN11 _ _ ?_
        obtain ⟨hrnl, hrd, hfw⟩ := hcut
        refine gseq fun N21 hN21 => ?_
        refine gT [box b9 _, rowl _ _ _ _ _ _, fr30, box b11 _, rowl _ _ _ _ _ _, box b13 _, rowl _ _ _ _ _ _, box b15 _, rowl _ _ _ _ _ _, fr, box b17 _, box b18 _, rowl _ _ _ _ _ _, fw] rfl ?_
        refine gfrom [(0, .slice _ _ _), (2, .string _), (3, .slice _ _ _), (9, .pointer _), (10, .slice _ _ _), (11, .pointer _), (12, .slice _ _ _), (13, .pointer _), (14, .slice _ _ _), (15, .pointer _), (16, .slice _ _ _), (17, .pointer _), (18, .pointer _), (19, .slice Av _ cv)] ⟨rfl, rfl, rfl, rfl, rfl, rfl, rfl, rfl, rfl, rfl, rfl, rfl, rfl, rfl, trivial⟩ fun σ => ?_
        refine gcut3 (Lf := [(0, .slice _ _ _), (2, .string _), (3, .slice _ _ _), (9, .pointer _), (10, .slice _ _ _), (11, .pointer _), (12, .slice _ _ _), (13, .pointer _), (14, .slice _ _ _), (15, .pointer _), (16, .slice _ _ _), (17, .pointer _), (18, .pointer _), (19, .slice Av _ cv)]) (G := Unit) (fun g => (fileF text).code = 0 → rls rn = fileV text) (fun g => []) (fun g => [(11, box b18 (.cells #[.int .i64 (fileF text).code, .int .i64 (fileF text).index] 23))]) ⟨rfl, rfl, rfl, rfl, rfl, rfl, rfl, rfl, rfl, rfl, rfl, rfl, rfl, rfl, trivial⟩ ?_ ?_
        ·
          refine gseq fun N22 hN22 => ?_
          refine greg ?_
          refine gop (y_fieldAddr_box fa23_0 rfl) rfl rfl rfl ?_
          refine gop (y_load Tryd.isAgg3 rfl (cell_box 11 rfl rfl)) rfl rfl rfl ?_
          refine gop (y_eql rfl rfl) rfl rfl rfl ?_
          refine gop (y_move (v := .bool _) rfl) rfl rfl rfl ?_
          refine gop_if (want := true) rfl rfl rfl rfl rfl rfl (fun hg104 => ?_) (fun hg104 => ?_)
          · 
            have hg104d := of_decide_eq_true hg104
            refine gop (y_bare (y_move (v := .slice Av _ cv) rfl)) rfl rfl rfl ?_
            refine gop_on rfl rfl rfl rfl hg104 ?_
            refine gop (y_bare (y_len Tryd.underlying29 rfl)) rfl rfl rfl ?_
            refine gop_on rfl rfl rfl rfl hg104 ?_
            refine gop (y_bare (y_gtr rfl rfl)) rfl rfl rfl ?_
            refine gop (y_pick_t (v := .bool _) rfl hg104 rfl) rfl rfl rfl ?_
            refine gops_nil ?_
            refine hN22 _ _ ?_
            refine gfrom [(0, .slice _ _ _), (2, .string _), (3, .slice _ _ _), (9, .pointer _), (10, .slice _ _ _), (11, .pointer _), (12, .slice _ _ _), (13, .pointer _), (14, .slice _ _ _), (15, .pointer _), (16, .slice _ _ _), (17, .pointer _), (18, .pointer _), (19, .slice Av _ cv), (108, .bool _)] ⟨rfl, rfl, rfl, rfl, rfl, rfl, rfl, rfl, rfl, rfl, rfl, rfl, rfl, rfl, rfl, trivial⟩ fun σ => ?_
            refine gcond (b := _) rfl (fun hc108 => ?_) (fun hc108 => ?_)
            · 
              replace hc108 := of_decide_eq_true hc108
              have hF : fileF text = ⟨2, -1⟩ := by obtain ⟨kk, hRd, hst⟩ := hrd; exact hRd.done1 hst hg104d (by simp; omega)
              refine greg ?_
              refine gop_pure (e_call (vs := [_, _]) Tryd.func31 rfl (by kernel_rfl) rfl) (fun w hM => fault_any w _ _) rfl rfl rfl ?_
              refine gop_store 11 (v := .agg #[_, _]) (cs' := #[_, _]) rfl rfl Tryd.sizeOf23 rfl rfl rfl rfl (Nat.le_of_ble_eq_true rfl) rfl rfl ?_
              refine gops_nil ?_
              rw [hF]
              refine gcut3_end (()) (fun h => absurd h (show ¬ (2 : Int) = 0 by decide)) trivial ⟨rfl, rfl, rfl, rfl, rfl, rfl, rfl, rfl, rfl, rfl, rfl, rfl, rfl, rfl, trivial⟩ ⟨_, rfl⟩
            · 
              replace hc108 := of_decide_eq_false hc108
              obtain ⟨hF, hFV⟩ : fileF text = p ∧ (p.code = 0 → rls rn = fileV text) := by obtain ⟨kk, hRd, hst⟩ := hrd; exact hRd.done hst (fun h => by have h7 := h.2; simp at h7; omega)
              refine gskip ?_
              rw [hF]
              refine gcut3_end (()) (hFV) trivial ⟨rfl, rfl, rfl, rfl, rfl, rfl, rfl, rfl, rfl, rfl, rfl, rfl, rfl, rfl, trivial⟩ ⟨_, rfl⟩
          · 
            have hg104d := of_decide_eq_false hg104
            refine gop_off rfl rfl rfl rfl hg104 rfl rfl ?_
            refine gop_off rfl rfl rfl rfl hg104 rfl rfl ?_
            refine gop (y_pick_f (v := .bool _) rfl hg104 rfl) rfl rfl rfl ?_
            refine gops_nil ?_
            refine hN22 _ _ ?_
            refine gfrom [(0, .slice _ _ _), (2, .string _), (3, .slice _ _ _), (9, .pointer _), (10, .slice _ _ _), (11, .pointer _), (12, .slice _ _ _), (13, .pointer _), (14, .slice _ _ _), (15, .pointer _), (16, .slice _ _ _), (17, .pointer _), (18, .pointer _), (19, .slice Av _ cv), (108, .bool _)] ⟨rfl, rfl, rfl, rfl, rfl, rfl, rfl, rfl, rfl, rfl, rfl, rfl, rfl, rfl, rfl, trivial⟩ fun σ => ?_
            refine gcond (b := _) rfl (fun hc108 => ?_) (fun hc108 => ?_)
            · 
              cases hc108
            · 
              obtain ⟨hF, hFV⟩ : fileF text = p ∧ (p.code = 0 → rls rn = fileV text) := by obtain ⟨kk, hRd, hst⟩ := hrd; exact hRd.done hst (fun h => by have h7 := h.2; simp at h7; omega)
              refine gskip ?_
              rw [hF]
              refine gcut3_end (()) (hFV) trivial ⟨rfl, rfl, rfl, rfl, rfl, rfl, rfl, rfl, rfl, rfl, rfl, rfl, rfl, rfl, trivial⟩ ⟨_, rfl⟩
        ·
          intro g hcut σ
          refine hN21 _ _ ?_
          have hFV := hcut
          refine gseq fun N23 hN23 => ?_
          refine gT [box b9 _, rowl _ _ _ _ _ _, fr30, box b11 _, rowl _ _ _ _ _ _, box b13 _, rowl _ _ _ _ _ _, box b15 _, rowl _ _ _ _ _ _, fr, box b17 _, box b18 _, rowl _ _ _ _ _ _, fw] rfl ?_
          refine gfrom [(0, .slice _ _ _), (2, .string _), (3, .slice _ _ _), (9, .pointer _), (10, .slice _ _ _), (11, .pointer _), (12, .slice _ _ _), (13, .pointer _), (14, .slice _ _ _), (15, .pointer _), (16, .slice _ _ _), (17, .pointer _), (18, .pointer _), (19, .slice Av _ cv)] ⟨rfl, rfl, rfl, rfl, rfl, rfl, rfl, rfl, rfl, rfl, rfl, rfl, rfl, rfl, trivial⟩ fun σ => ?_
          refine gcut3 (Lf := [(0, .slice _ _ _), (2, .string _), (3, .slice _ _ _), (9, .pointer _), (10, .slice _ _ _), (11, .pointer _), (12, .slice _ _ _), (13, .pointer _), (14, .slice _ _ _), (15, .pointer _), (16, .slice _ _ _), (17, .pointer _), (18, .pointer _)]) (G := Option Addr × Nat × List RuleC) (fun (Bv, dv, wn) => rls wn = fileV text ∧ ∀ w1, fw.ok w1 → ∀ a ∈ wn, RuleR w1 0 a) (fun (Bv, dv, wn) => [(19, .slice Bv wn.length dv)]) (fun (Bv, dv, wn) => [(12, rowl ruleCells w.heap.size 32 2 (.slice Bv wn.length dv) (wn))]) ⟨rfl, rfl, rfl, rfl, rfl, rfl, rfl, rfl, rfl, rfl, rfl, rfl, rfl, trivial⟩ ?_ ?_
          ·
            refine gseq fun N24 hN24 => ?_
            refine greg ?_
            refine gop (y_fieldAddr_box fa23_0 rfl) rfl rfl rfl ?_
            refine gop (y_load Tryd.isAgg3 rfl (cell_box 11 rfl rfl)) rfl rfl rfl ?_
            refine gop (y_neq rfl rfl) rfl rfl rfl ?_
            refine gops_nil ?_
            refine hN24 _ _ ?_
            refine gfrom [(0, .slice _ _ _), (2, .string _), (3, .slice _ _ _), (9, .pointer _), (10, .slice _ _ _), (11, .pointer _), (12, .slice _ _ _), (13, .pointer _), (14, .slice _ _ _), (15, .pointer _), (16, .slice _ _ _), (17, .pointer _), (18, .pointer _), (19, .slice Av _ cv), (112, .bool _)] ⟨rfl, rfl, rfl, rfl, rfl, rfl, rfl, rfl, rfl, rfl, rfl, rfl, rfl, rfl, rfl, trivial⟩ fun σ => ?_
            refine gcond (b := _) rfl (fun hc112 => ?_) (fun hc112 => ?_)
            · 
              replace hc112 := of_decide_eq_true hc112
              refine greg ?_
              refine gop (y_assign (v := .slice _ _ _) rfl) rfl rfl rfl ?_
              refine gops_nil ?_
              refine fin_mem _ (weak_rownil 12 ruleCells rfl) ?_
              refine gcut3_end ((none, 0, [])) (⟨(fileV_bad hc112).symm, fun _ _ _ h => by cases h⟩) ⟨rfl, trivial⟩ ⟨rfl, rfl, rfl, rfl, rfl, rfl, rfl, rfl, rfl, rfl, rfl, rfl, rfl, trivial⟩ ⟨_, rfl⟩
            · 
              replace hc112 := Decidable.not_not.1 (of_decide_eq_false hc112)
              refine gskip ?_
              refine gcut3_end ((Av, cv, rn)) (⟨hFV hc112, hfw⟩) ⟨rfl, trivial⟩ ⟨rfl, rfl, rfl, rfl, rfl, rfl, rfl, rfl, rfl, rfl, rfl, rfl, rfl, trivial⟩ ⟨_, rfl⟩
          ·
            rintro ⟨Bv, dv, wn⟩ hcut σ
            refine hN23 _ _ ?_
            obtain ⟨hwn, hfw⟩ := hcut
            refine gseq fun N25 hN25 => ?_
            refine gseq fun N26 hN26 => ?_
            refine greg ?_
            refine gop (y_loads (cs := [_, _]) Tryd.isAgg23 Tryd.sizeOf23 rfl rfl (cells_box 3 rfl)) rfl rfl rfl ?_
            refine gop (y_loads (cs := [_, _]) Tryd.isAgg23 Tryd.sizeOf23 rfl rfl (cells_box 11 rfl)) rfl rfl rfl ?_
            refine gop (y_bin (vx := .agg #[_, _]) (vy := .agg #[_, _]) rfl rfl (fun w => eg23 _ _ _ _ _ w) (fun w => ne23 _ _ _ _ w)) rfl rfl rfl ?_
            refine gop (y_move (v := .bool _) rfl) rfl rfl rfl ?_
            refine gop_if (want := false) rfl rfl rfl rfl rfl rfl (fun hg116 => ?_) (fun hg116 => ?_)
            · 
              have hg116d := hg116
              refine gop (y_bare (y_move (v := .slice _ _ _) rfl)) rfl rfl rfl ?_
              refine gop_on rfl rfl rfl rfl hg116 ?_
              refine gop (y_bare (y_move (v := .slice Bv _ dv) rfl)) rfl rfl rfl ?_
              refine gop_on rfl rfl rfl rfl hg116 ?_
              refine gop_pure (e_call (vs := [.slice _ _ _, .slice Bv _ dv]) Tryd.func23 rfl (by kernel_rfl) rfl) (fun w hM => sameRules_any w A30 Bv c30 dv rs30 wn ((row_rdl (f := ruleCells) (fun _ => rfl) (hM.ok _ (List.mem_of_getElem? (i := 1) rfl))).mono (Nat.zero_le _)) (hfr30 w (hM.ok _ (List.mem_of_getElem? (i := 2) rfl))) ((row_rdl (f := ruleCells) (fun _ => rfl) (hM.ok _ (List.mem_of_getElem? (i := 12) rfl))).mono (Nat.zero_le _)) (hfw w (hM.ok _ (List.mem_of_getElem? (i := 13) rfl))) (Nat.le_trans hc30 hm30)) rfl rfl rfl ?_
              refine gop_on rfl rfl rfl rfl hg116 ?_
              refine gop (y_bare (y_not rfl)) rfl rfl rfl ?_
              refine gop (y_pick_f (v := .bool _) rfl hg116 rfl) rfl rfl rfl ?_
              refine gops_nil ?_
              refine hN26 _ _ ?_
              refine gT [box b9 _, rowl _ _ _ _ _ _, fr30, box b11 _, rowl _ _ _ _ _ _, box b13 _, rowl _ _ _ _ _ _, box b15 _, rowl _ _ _ _ _ _, fr, box b17 _, box b18 _, rowl _ _ _ _ _ _, fw] rfl ?_
              refine gfrom [(0, .slice _ _ _), (2, .string _), (3, .slice _ _ _), (9, .pointer _), (12, .slice _ _ _), (13, .pointer _), (14, .slice _ _ _), (15, .pointer _), (16, .slice _ _ _), (17, .pointer _), (121, .bool _)] ⟨rfl, rfl, rfl, rfl, rfl, rfl, rfl, rfl, rfl, rfl, rfl, trivial⟩ fun σ => ?_
              refine gcond (b := _) rfl (fun hc121 => ?_) (fun hc121 => ?_)
              · 
                 first | (rw [hrs30, hwn] at hc121; simp at hc121; done) | (simp [hrs30, hwn] at hc121; done)
              · 
                replace hc121 := not_f hc121
                refine gskip ?_
                refine hN25 _ _ ?_
                refine gfrom [(0, .slice _ _ _), (2, .string _), (3, .slice _ _ _), (9, .pointer _), (12, .slice _ _ _), (13, .pointer _), (14, .slice _ _ _), (15, .pointer _), (16, .slice _ _ _), (17, .pointer _)] ⟨rfl, rfl, rfl, rfl, rfl, rfl, rfl, rfl, rfl, rfl, trivial⟩ fun σ => ?_
                refine gseq fun N27 hN27 => ?_
                refine gseq fun N28 hN28 => ?_
                refine greg ?_
                refine gop (y_fieldAddr_box fa23_0 rfl) rfl rfl rfl ?_
                refine gop (y_load Tryd.isAgg3 rfl (cell_box 0 rfl rfl)) rfl rfl rfl ?_
                refine gop (y_neq rfl rfl) rfl rfl rfl ?_
                refine gops_nil ?_
                refine hN28 _ _ ?_
                refine gfrom [(0, .slice _ _ _), (2, .string _), (3, .slice _ _ _), (9, .pointer _), (12, .slice _ _ _), (13, .pointer _), (14, .slice _ _ _), (15, .pointer _), (16, .slice _ _ _), (17, .pointer _), (124, .bool _)] ⟨rfl, rfl, rfl, rfl, rfl, rfl, rfl, rfl, rfl, rfl, rfl, trivial⟩ fun σ => ?_
                refine gcond (b := _) rfl (fun hc124 => ?_) (fun hc124 => ?_)
                · 
                  replace hc124 := of_decide_eq_true hc124
                  have hne : ¬ rulesF (rls rs) = ⟨0, 0⟩ := fun h => hc124 (by rw [h])
                  have hW : formatV (rls rs) = [] := by rw [formatV, if_neg hne]
                  have hO : ofF (rls rs) path = rulesF (rls rs) := by rw [ofF, if_pos hne]
                  have hOV : ofV (rls rs) path = [] := by rw [ofV, if_neg (fun h => hne h.1)]
                  have hQ : reqF (rls rs) ps = rulesF (rls rs) := by rw [reqF, if_pos hne]
                  have hQV : og.length = 0 := gps_nil (hog.trans (reqV_bad (by rw [hQ]; exact hc124)))
                  refine gseq fun N29 hN29 => ?_
                  refine greg ?_
                  refine gop (y_loads (cs := [_, _]) Tryd.isAgg23 Tryd.sizeOf23 rfl rfl (cells_box 5 rfl)) rfl rfl rfl ?_
                  refine gop (y_loads (cs := [_, _]) Tryd.isAgg23 Tryd.sizeOf23 rfl rfl (cells_box 0 rfl)) rfl rfl rfl ?_
                  refine gop (y_bin (vx := .agg #[_, _]) (vy := .agg #[_, _]) rfl rfl (fun w => eg23 _ _ _ _ _ w) (fun w => eq23 _ _ _ _ w)) rfl rfl rfl ?_
                  refine gop (y_move (v := .bool _) rfl) rfl rfl rfl ?_
                  refine gop_if (want := true) rfl rfl rfl rfl rfl rfl (fun hg128 => ?_) (fun hg128 => ?_)
                  · 
                    have hg128d := hg128
                    refine gop (y_bare (y_loads (cs := [_, _]) Tryd.isAgg23 Tryd.sizeOf23 rfl rfl (cells_box 7 rfl))) rfl rfl rfl ?_
                    refine gop_on rfl rfl rfl rfl hg128 ?_
                    refine gop (y_bare (y_loads (cs := [_, _]) Tryd.isAgg23 Tryd.sizeOf23 rfl rfl (cells_box 0 rfl))) rfl rfl rfl ?_
                    refine gop_on rfl rfl rfl rfl hg128 ?_
                    refine gop (y_bare (y_bin (vx := .agg #[_, _]) (vy := .agg #[_, _]) rfl rfl (fun w => eg23 _ _ _ _ _ w) (fun w => eq23 _ _ _ _ w))) rfl rfl rfl ?_
                    refine gop (y_pick_t (v := .bool _) rfl hg128 rfl) rfl rfl rfl ?_
                    refine gop (y_move (v := .bool _) rfl) rfl rfl rfl ?_
                    refine gop_if (want := true) rfl rfl rfl rfl rfl rfl (fun hg133 => ?_) (fun hg133 => ?_)
                    · 
                      have hg133d := hg133
                      refine gop (y_bare (y_loads (cs := [_, _]) Tryd.isAgg23 Tryd.sizeOf23 rfl rfl (cells_box 10 rfl))) rfl rfl rfl ?_
                      refine gop_on rfl rfl rfl rfl hg133 ?_
                      refine gop (y_bare (y_loads (cs := [_, _]) Tryd.isAgg23 Tryd.sizeOf23 rfl rfl (cells_box 0 rfl))) rfl rfl rfl ?_
                      refine gop_on rfl rfl rfl rfl hg133 ?_
                      refine gop (y_bare (y_bin (vx := .agg #[_, _]) (vy := .agg #[_, _]) rfl rfl (fun w => eg23 _ _ _ _ _ w) (fun w => eq23 _ _ _ _ w))) rfl rfl rfl ?_
                      refine gop (y_pick_t (v := .bool _) rfl hg133 rfl) rfl rfl rfl ?_
                      refine gop (y_move (v := .bool _) rfl) rfl rfl rfl ?_
                      refine gop_if (want := true) rfl rfl rfl rfl rfl rfl (fun hg138 => ?_) (fun hg138 => ?_)
                      · 
                        have hg138d := hg138
                        refine gop (y_bare (y_move (v := .slice _ _ _) rfl)) rfl rfl rfl ?_
                        refine gop_on rfl rfl rfl rfl hg138 ?_
                        refine gop (y_bare (y_len Tryd.underlying37 rfl)) rfl rfl rfl ?_
                        refine gop_on rfl rfl rfl rfl hg138 ?_
                        refine gop (y_bare (y_eql rfl rfl)) rfl rfl rfl ?_
                        refine gop (y_pick_t (v := .bool _) rfl hg138 rfl) rfl rfl rfl ?_
                        refine gop (y_move (v := .bool _) rfl) rfl rfl rfl ?_
                        refine gop_if (want := true) rfl rfl rfl rfl rfl rfl (fun hg143 => ?_) (fun hg143 => ?_)
                        · 
                          have hg143d := of_decide_eq_true hg143
                          refine gop (y_bare (y_move (v := .slice _ _ _) rfl)) rfl rfl rfl ?_
                          refine gop_on rfl rfl rfl rfl hg143 ?_
                          refine gop (y_bare (y_len Tryd.underlying30 rfl)) rfl rfl rfl ?_
                          refine gop_on rfl rfl rfl rfl hg143 ?_
                          refine gop (y_bare (y_eql rfl rfl)) rfl rfl rfl ?_
                          refine gop (y_pick_t (v := .bool _) rfl hg143 rfl) rfl rfl rfl ?_
                          refine gop (y_move (v := .bool _) rfl) rfl rfl rfl ?_
                          refine gop_if (want := true) rfl rfl rfl rfl rfl rfl (fun hg148 => ?_) (fun hg148 => ?_)
                          · 
                            have hg148d := of_decide_eq_true hg148
                            refine gop (y_bare (y_move (v := .slice _ _ _) rfl)) rfl rfl rfl ?_
                            refine gop_on rfl rfl rfl rfl hg148 ?_
                            refine gop (y_bare (y_len Tryd.underlying44 rfl)) rfl rfl rfl ?_
                            refine gop_on rfl rfl rfl rfl hg148 ?_
                            refine gop (y_bare (y_eql rfl rfl)) rfl rfl rfl ?_
                            refine gop (y_pick_t (v := .bool _) rfl hg148 rfl) rfl rfl rfl ?_
                            refine gop (y_assign (v := .bool _) rfl) rfl rfl rfl ?_
                            refine gops_nil ?_
                            refine hN29 _ _ ?_
                            refine gfrom [(8, .bool _)] ⟨rfl, trivial⟩ fun σ => ?_
                            refine gret fun w1 hM => ?_
                            refine ⟨_, res1 rfl (rt (v := .bool _) rfl), ?_⟩
                            exact ⟨by rw [decide_eq_true (show ((og.length : Nat) : Int) = 0 by omega)], hM.low⟩
                          · 
                             rw [hOV] at hg148; simp at hg148
                        · 
                           rw [hW] at hg143; simp at hg143
                      · 
                         rw [hQ] at hg138; simp at hg138
                    · 
                       rw [hO] at hg133; simp at hg133
                  · 
                     simp at hg128
                · 
                  replace hc124 := Decidable.not_not.1 (of_decide_eq_false hc124)
                  have hv0 : (rulesF (rls rs)).code = 0 := hc124
                  have hV : rulesF (rls rs) = ⟨0, 0⟩ := rulesF_code hv0
                  have hW : formatV (rls rs) = (rls rs).map ruleLine := by rw [formatV, if_pos hV]
                  have hWl : (formatV (rls rs)).length = rs.length := by rw [hW]; simp
                  refine gskip ?_
                  refine hN27 _ _ ?_
                  refine gfrom [(0, .slice _ _ _), (2, .string _), (3, .slice _ _ _), (12, .slice _ _ _), (13, .pointer _), (14, .slice _ _ _), (15, .pointer _), (16, .slice _ _ _), (17, .pointer _)] ⟨rfl, rfl, rfl, rfl, rfl, rfl, rfl, rfl, rfl, trivial⟩ fun σ => ?_
                  refine gseq fun N30 hN30 => ?_
                  refine gseq fun N31 hN31 => ?_
                  refine greg ?_
                  refine gop (y_fieldAddr_box fa23_0 rfl) rfl rfl rfl ?_
                  refine gop (y_load Tryd.isAgg3 rfl (cell_box 5 rfl rfl)) rfl rfl rfl ?_
                  refine gop (y_neq rfl rfl) rfl rfl rfl ?_
                  refine gop (y_move (v := .bool _) rfl) rfl rfl rfl ?_
                  refine gop_if (want := false) rfl rfl rfl rfl rfl rfl (fun hg156 => ?_) (fun hg156 => ?_)
                  · 
                    have hg156d := Decidable.not_not.1 (of_decide_eq_false hg156)
                    refine gop (y_bare (y_move (v := .slice _ _ _) rfl)) rfl rfl rfl ?_
                    refine gop_on rfl rfl rfl rfl hg156 ?_
                    refine gop (y_bare (y_len Tryd.underlying37 rfl)) rfl rfl rfl ?_
                    refine gop_on rfl rfl rfl rfl hg156 ?_
                    refine gop (y_bare (y_move (v := .slice _ _ _) rfl)) rfl rfl rfl ?_
                    refine gop_on rfl rfl rfl rfl hg156 ?_
                    refine gop (y_bare (y_len Tryd.underlying29 rfl)) rfl rfl rfl ?_
                    refine gop_on rfl rfl rfl rfl hg156 ?_
                    refine gop (y_bare (y_neq rfl rfl)) rfl rfl rfl ?_
                    refine gop (y_pick_f (v := .bool _) rfl hg156 rfl) rfl rfl rfl ?_
                    refine gops_nil ?_
                    refine hN31 _ _ ?_
                    refine gfrom [(0, .slice _ _ _), (2, .string _), (3, .slice _ _ _), (12, .slice _ _ _), (14, .slice _ _ _), (15, .pointer _), (16, .slice _ _ _), (17, .pointer _), (162, .bool _)] ⟨rfl, rfl, rfl, rfl, rfl, rfl, rfl, rfl, rfl, trivial⟩ fun σ => ?_
                    refine gcond (b := _) rfl (fun hc162 => ?_) (fun hc162 => ?_)
                    · 
                       exact absurd (of_decide_eq_true hc162) (by rw [hWl]; simp)
                    · 
                      replace hc162 := Decidable.not_not.1 (of_decide_eq_false hc162)
                      refine gskip ?_
                      refine hN30 _ _ ?_
                      refine gfrom [(0, .slice _ _ _), (2, .string _), (3, .slice _ _ _), (12, .slice _ _ _), (14, .slice _ _ _), (15, .pointer _), (16, .slice _ _ _), (17, .pointer _)] ⟨rfl, rfl, rfl, rfl, rfl, rfl, rfl, rfl, trivial⟩ fun σ => ?_
                      refine gseq fun N32 hN32 => ?_
                      refine gseq fun N33 hN33 => ?_
                      refine greg ?_
                      refine gop (y_assign (v := .int _ _) rfl) rfl rfl rfl ?_
                      refine gops_nil ?_
                      refine hN33 _ _ ?_
                      refine gfrom [(0, .slice _ _ _), (2, .string _), (3, .slice _ _ _), (12, .slice _ _ _), (14, .slice _ _ _), (15, .pointer _), (16, .slice _ _ _), (17, .pointer _), (23, .int _ _)] ⟨rfl, rfl, rfl, rfl, rfl, rfl, rfl, rfl, rfl, trivial⟩ fun σ => ?_
                      refine gblock ?_
                      refine gfrom2 [(23, .int _ _)] [(0, .slice _ _ _), (2, .string _), (3, .slice _ _ _), (12, .slice _ _ _), (14, .slice _ _ _), (15, .pointer _), (16, .slice _ _ _), (17, .pointer _)] ⟨rfl, trivial⟩ ⟨rfl, rfl, rfl, rfl, rfl, rfl, rfl, rfl, trivial⟩ fun σ => ?_
                      refine gloop2 (G := Nat) (fun i => i ≤ rs.length) (fun i => rs.length - i) (fun i => [(23, .int .i64 (i : Int))]) (fun i => []) (0) ?h0 ⟨rfl, trivial⟩ ⟨rfl, rfl, rfl, rfl, rfl, rfl, rfl, rfl, trivial⟩ rfl ?round
                      case h0 => exact Nat.zero_le _
                      case round =>
                        intro i hφ σ
                        have hi : i ≤ rs.length := hφ
                        refine gseq fun N34 hN34 => ?_
                        refine gseq fun N35 hN35 => ?_
                        refine greg ?_
                        refine gop (y_move (v := .int _ _) rfl) rfl rfl rfl ?_
                        refine gop (y_move (v := .slice _ _ _) rfl) rfl rfl rfl ?_
                        refine gop (y_len Tryd.underlying29 rfl) rfl rfl rfl ?_
                        refine gop (y_lss rfl rfl) rfl rfl rfl ?_
                        refine gops_nil ?_
                        refine hN35 _ _ ?_
                        refine gfrom [(0, .slice _ _ _), (2, .string _), (3, .slice _ _ _), (12, .slice _ _ _), (14, .slice _ _ _), (15, .pointer _), (16, .slice _ _ _), (17, .pointer _), (23, .int _ _), (166, .bool _)] ⟨rfl, rfl, rfl, rfl, rfl, rfl, rfl, rfl, rfl, rfl, trivial⟩ fun σ => ?_
                        refine gcond (b := _) rfl (fun hc166 => ?_) (fun hc166 => ?_)
                        · 
                          replace hc166 := of_decide_eq_true hc166
                          have hi1 : i < rs.length := by omega
                          have hiw : i < (formatV (rls rs)).length := by omega
                          obtain ⟨ad, rfl, -, hca⟩ := hR.rd.at_ hi1
                          have hli : (formatV (rls rs))[i] = ruleLine rs[i].pl := by simp only [hW, List.getElem_map]
                          refine g_fact (fun w hM => own_some (hM.own 4 rfl) (by omega)) ?_
                          rintro ⟨rg4, cg4, hvg, -, -⟩
                          simp only [Value.slice.injEq] at hvg
                          obtain ⟨rfl, -, rfl⟩ := hvg
                          refine gskip ?_
                          refine hN34 _ _ ?_
                          refine gfrom [(0, .slice _ _ _), (2, .string _), (3, .slice _ _ _), (12, .slice _ _ _), (14, .slice _ _ _), (15, .pointer _), (16, .slice _ _ _), (17, .pointer _), (23, .int _ _)] ⟨rfl, rfl, rfl, rfl, rfl, rfl, rfl, rfl, rfl, trivial⟩ fun σ => ?_
                          refine gseq fun N36 hN36 => ?_
                          refine gblock ?_
                          refine gseq fun N37 hN37 => ?_
                          refine greg_q (by kernel_rfl) (by kernel_rfl) ?_
                          refine gq (y_move (v := .slice _ _ _) rfl) rfl rfl rfl ?_
                          refine gq (y_move (v := .int _ _) rfl) rfl rfl rfl ?_
                          refine gq (y_indexAddr (m := i) Tryd.underlying37 Tryd.sizeOf9 rfl rfl (by omega) (by omega) (by omega)) rfl rfl rfl ?_
                          refine gq (y_load Tryd.isAgg9 rfl (cells_rowl 4 (f := strCells) (l := formatV (rls rs)) rfl rfl (fun _ => rfl) (List.getElem?_eq_getElem hiw) 0 _ rfl)) rfl rfl rfl ?_
                          refine gq (y_move (v := .slice _ _ _) rfl) rfl rfl rfl ?_
                          refine gq (y_move (v := .int _ _) rfl) rfl rfl rfl ?_
                          refine gq (y_indexAddr (m := i) Tryd.underlying29 Tryd.sizeOf32 rfl rfl (by omega) (by omega) (by omega)) rfl rfl rfl ?_
                          refine gq (y_loads (cs := [_, _]) Tryd.isAgg32 Tryd.sizeOf32 rfl rfl (cells_base hca)) rfl rfl rfl ?_
                          refine gq_pure (e_call (vs := [.agg #[_, _]]) Tryd.func32 rfl (by kernel_rfl) rfl) (fun w hM => by have hz := ruleCode_zero (rulesF_each hV rs[i].pl (List.mem_map.2 ⟨_, List.getElem_mem hi1, rfl⟩)); exact refLine_any w rs[i].pl.pat rs[i].pl.users rs[i].A rs[i].c (RuleR.lasts.base (hR.each _ (List.getElem_mem hi1)) hM) (patFault_size hz.1) hz.2.1 (fun u hu => ⟨((uCode_zero hz.2.2).1 u hu).1, ((uCode_zero hz.2.2).1 u hu).2.1⟩)) rfl rfl rfl ?_
                          refine gq (y_neqs rfl rfl) rfl rfl rfl ?_
                          refine gqs_nil ?_
                          refine hN37 _ _ ?_
                          refine gfrom [(0, .slice _ _ _), (2, .string _), (3, .slice _ _ _), (12, .slice _ _ _), (14, .slice _ _ _), (15, .pointer _), (16, .slice _ _ _), (17, .pointer _), (23, .int _ _), (178, .bool _)] ⟨rfl, rfl, rfl, rfl, rfl, rfl, rfl, rfl, rfl, rfl, trivial⟩ fun σ => ?_
                          refine gcond (b := _) rfl (fun hc178 => ?_) (fun hc178 => ?_)
                          · 
                             exact absurd hc178 (by simp only [hli]; simp)
                          · 
                            refine gskip ?_
                            refine hN36 _ _ ?_
                            refine gfrom [(0, .slice _ _ _), (2, .string _), (3, .slice _ _ _), (12, .slice _ _ _), (14, .slice _ _ _), (15, .pointer _), (16, .slice _ _ _), (17, .pointer _), (23, .int _ _)] ⟨rfl, rfl, rfl, rfl, rfl, rfl, rfl, rfl, rfl, trivial⟩ fun σ => ?_
                            refine greg ?_
                            refine gop (y_move (v := .int _ _) rfl) rfl rfl rfl ?_
                            refine gop (y_add rfl rfl ⟨by omega, by omega⟩) rfl rfl rfl ?_
                            refine gop (y_assign (v := .int _ _) rfl) rfl rfl rfl ?_
                            refine gops_nil ?_
                            refine gnext2 (i + 1) (by omega) (show i + 1 ≤ _ by omega) ⟨rfl, trivial⟩ ⟨rfl, rfl, rfl, rfl, rfl, rfl, rfl, rfl, trivial⟩ ⟨_, rfl⟩
                        · 
                          replace hc166 := of_decide_eq_false hc166
                          refine gexit ?_
                          refine hN32 _ _ ?_
                          refine gfrom [(0, .slice _ _ _), (2, .string _), (3, .slice _ _ _), (14, .slice _ _ _), (15, .pointer _), (16, .slice _ _ _), (17, .pointer _)] ⟨rfl, rfl, rfl, rfl, rfl, rfl, rfl, trivial⟩ fun σ => ?_
                          refine gseq fun N38 hN38 => ?_
                          refine gfrom [(0, .slice _ _ _), (2, .string _), (3, .slice _ _ _), (14, .slice _ _ _), (15, .pointer _), (16, .slice _ _ _), (17, .pointer _)] ⟨rfl, rfl, rfl, rfl, rfl, rfl, rfl, trivial⟩ fun σ => ?_
                          refine gcut3 (Lf := [(0, .slice _ _ _), (3, .slice _ _ _), (16, .slice _ _ _), (17, .pointer _)]) (G := Unit) (fun g => True) (fun g => []) (fun g => []) ⟨rfl, rfl, rfl, rfl, trivial⟩ ?_ ?_
                          ·
                            refine gseq fun N39 hN39 => ?_
                            refine greg ?_
                            refine gop (y_move (v := .string _) rfl) rfl rfl rfl ?_
                            refine gop_pure (e_call (vs := [.string _]) Tryd.func17 rfl (by kernel_rfl) rfl) (fun w hM => isPath_any w path hpz) rfl rfl rfl ?_
                            refine gop (y_not rfl) rfl rfl rfl ?_
                            refine gops_nil ?_
                            refine hN39 _ _ ?_
                            refine gfrom [(0, .slice _ _ _), (2, .string _), (3, .slice _ _ _), (14, .slice _ _ _), (15, .pointer _), (16, .slice _ _ _), (17, .pointer _), (181, .bool _)] ⟨rfl, rfl, rfl, rfl, rfl, rfl, rfl, rfl, trivial⟩ fun σ => ?_
                            refine gcond (b := _) rfl (fun hc181 => ?_) (fun hc181 => ?_)
                            · 
                              replace hc181 := not_t hc181
                              have hO : ofF (rls rs) path = ⟨12, -2⟩ := by rw [ofF, if_neg (fun h => h hV), hc181]; rfl
                              have hOV : ofV (rls rs) path = [] := by rw [ofV, if_neg (fun h => absurd h.2 (by simp [hc181]))]
                              refine gseq fun N40 hN40 => ?_
                              refine greg_q (by kernel_rfl) (by kernel_rfl) ?_
                              refine gq (y_loads (cs := [_, _]) Tryd.isAgg23 Tryd.sizeOf23 rfl rfl (cells_box 7 rfl)) rfl rfl rfl ?_
                              refine gq_pure (e_call (vs := [_, _]) Tryd.func31 rfl (by kernel_rfl) rfl) (fun w hM => fault_any w _ _) rfl rfl rfl ?_
                              refine gq (y_bin (vx := .agg #[_, _]) (vy := .agg #[_, _]) rfl rfl (fun w => eg23 _ _ _ _ _ w) (fun w => ne23 _ _ _ _ w)) rfl rfl rfl ?_
                              refine gq (y_move (v := .bool _) rfl) rfl rfl rfl ?_
                              refine gq_if (want := false) rfl rfl rfl rfl rfl rfl (fun hg185 => ?_) (fun hg185 => ?_)
                              · 
                                have hg185d := hg185
                                refine gq (y_bare (y_move (v := .slice _ _ _) rfl)) rfl rfl rfl ?_
                                refine gq_on rfl rfl rfl rfl hg185 ?_
                                refine gq (y_bare (y_len Tryd.underlying30 rfl)) rfl rfl rfl ?_
                                refine gq_on rfl rfl rfl rfl hg185 ?_
                                refine gq (y_bare (y_gtr rfl rfl)) rfl rfl rfl ?_
                                refine gq (y_pick_f (v := .bool _) rfl hg185 rfl) rfl rfl rfl ?_
                                refine gqs_nil ?_
                                refine hN40 _ _ ?_
                                refine gfrom [(0, .slice _ _ _), (3, .slice _ _ _), (16, .slice _ _ _), (17, .pointer _), (189, .bool _)] ⟨rfl, rfl, rfl, rfl, rfl, trivial⟩ fun σ => ?_
                                refine gcond (b := _) rfl (fun hc189 => ?_) (fun hc189 => ?_)
                                · 
                                   rw [hOV] at hc189; exact absurd hc189 (by decide)
                                · 
                                  replace hc189 := of_decide_eq_false hc189
                                  refine gskip ?_
                                  refine gcut3_end (()) (trivial) trivial ⟨rfl, rfl, rfl, rfl, trivial⟩ ⟨_, rfl⟩
                              · 
                                 rw [hO] at hg185; simp at hg185
                            · 
                              replace hc181 := not_f hc181
                              obtain ⟨hO, hOV⟩ := of_ok hV (show pathOk path = true from hc181)
                              obtain ⟨Bp, dp, hop, hgp⟩ := ownV_read hR path
                              refine gseq fun N41 hN41 => ?_
                              refine greg ?_
                              refine gop (y_fieldAddr_box fa23_0 rfl) rfl rfl rfl ?_
                              refine gop (y_load Tryd.isAgg3 rfl (cell_box 7 rfl rfl)) rfl rfl rfl ?_
                              refine gop (y_neq rfl rfl) rfl rfl rfl ?_
                              refine gop (y_move (v := .bool _) rfl) rfl rfl rfl ?_
                              refine gop_if (want := false) rfl rfl rfl rfl rfl rfl (fun hg193 => ?_) (fun hg193 => ?_)
                              · 
                                have hg193d := Decidable.not_not.1 (of_decide_eq_false hg193)
                                refine gop (y_bare (y_move (v := .slice _ _ _) rfl)) rfl rfl rfl ?_
                                refine gop_on rfl rfl rfl rfl hg193 ?_
                                refine gop (y_bare (y_move (v := .slice _ _ _) rfl)) rfl rfl rfl ?_
                                refine gop_on rfl rfl rfl rfl hg193 ?_
                                refine gop (y_bare (y_move (v := .string _) rfl)) rfl rfl rfl ?_
                                refine gop_on rfl rfl rfl rfl hg193 ?_
                                refine gop_pure (e_call (vs := [.slice _ _ _, .string _]) Tryd.func33 rfl (by kernel_rfl) rfl) (fun w hM => by have hc := refOwners_any w A c rs (RulesR.lasts.base hR hM) path (fun a ha => Nat.le_trans (patFault_size (ruleCode_zero (rulesF_each hV a.pl (List.mem_map.2 ⟨a, ha, rfl⟩))).1) (by decide)) hpz; rw [hop] at hc; exact hc) rfl rfl rfl ?_
                                refine gop_on rfl rfl rfl rfl hg193 ?_
                                refine gop_pure (e_call (vs := [.slice _ _ _, .slice _ _ _]) Tryd.func20 rfl (by kernel_rfl) rfl) (fun w hM => by have h1 : Rdl w 0 1 intCells A41 (ofV (rls rs) path) := ((row_rdl (f := intCells) (fun _ => rfl) (hM.ok _ (List.mem_of_getElem? (i := 6) rfl))).mono (Nat.zero_le _)); exact sameInts_any w A41 Bp c41 dp (ofV (rls rs) path) (findU (rls rs) path) h1 (hgp.rd.base hM) (Nat.le_trans hc41 hm41)) rfl rfl rfl ?_
                                refine gop_on rfl rfl rfl rfl hg193 ?_
                                refine gop (y_bare (y_not rfl)) rfl rfl rfl ?_
                                refine gop (y_pick_f (v := .bool _) rfl hg193 rfl) rfl rfl rfl ?_
                                refine gops_nil ?_
                                refine hN41 _ _ ?_
                                refine gfrom [(0, .slice _ _ _), (3, .slice _ _ _), (16, .slice _ _ _), (17, .pointer _), (200, .bool _)] ⟨rfl, rfl, rfl, rfl, rfl, trivial⟩ fun σ => ?_
                                refine gcond (b := _) rfl (fun hc200 => ?_) (fun hc200 => ?_)
                                · 
                                   first | (rw [hOV] at hc200; simp at hc200; done) | (simp [hOV] at hc200; done)
                                · 
                                  replace hc200 := not_f hc200
                                  refine gskip ?_
                                  refine gcut3_end (()) (trivial) trivial ⟨rfl, rfl, rfl, rfl, trivial⟩ ⟨_, rfl⟩
                              · 
                                 rw [hO] at hg193; simp at hg193
                          ·
                            intro g hcut σ
                            refine hN38 _ _ ?_
                            refine gseq fun N42 hN42 => ?_
                            refine greg ?_
                            refine gop (y_build (vs := []) (cells := #[.int .i64 0, .int .i64 0]) rfl bd23_) rfl rfl rfl ?_
                            refine gop_alloc (cs := #[.int .i64 0, .int .i64 0]) Tryd.zeroValue23 rfl rfl (fun b24 hb24 => ?_)
                            refine gop_store 14 (v := .agg #[_, _]) (cs' := #[_, _]) rfl rfl Tryd.sizeOf23 rfl rfl rfl rfl (Nat.le_of_ble_eq_true rfl) rfl rfl ?_
                            refine gops_nil ?_
                            refine hN42 _ _ ?_
                            refine gT [box b9 _, rowl _ _ _ _ _ _, fr30, box b11 _, rowl _ _ _ _ _ _, box b13 _, rowl _ _ _ _ _ _, box b15 _, rowl _ _ _ _ _ _, fr, box b17 _, box b18 _, rowl _ _ _ _ _ _, fw, box b24 _] rfl ?_
                            refine gfrom [(0, .slice _ _ _), (3, .slice _ _ _), (16, .slice _ _ _), (17, .pointer _), (24, .pointer _)] ⟨rfl, rfl, rfl, rfl, rfl, trivial⟩ fun σ => ?_
                            refine gseq fun N43 hN43 => ?_
                            refine gfrom [(0, .slice _ _ _), (3, .slice _ _ _), (16, .slice _ _ _), (17, .pointer _), (24, .pointer _)] ⟨rfl, rfl, rfl, rfl, rfl, trivial⟩ fun σ => ?_
                            refine gcut3 (Lf := [(0, .slice _ _ _), (3, .slice _ _ _), (16, .slice _ _ _), (17, .pointer _), (24, .pointer _)]) (G := Unit) (fun g => True) (fun g => []) (fun g => [(14, box b24 (.cells #[.int .i64 (capF ps).code, .int .i64 (capF ps).index] 23))]) ⟨rfl, rfl, rfl, rfl, rfl, trivial⟩ ?_ ?_
                            ·
                              refine gseq fun N44 hN44 => ?_
                              refine greg ?_
                              refine gop (y_move (v := .slice _ _ _) rfl) rfl rfl rfl ?_
                              refine gop (y_len Tryd.underlying37 rfl) rfl rfl rfl ?_
                              refine gop (y_gtr rfl rfl) rfl rfl rfl ?_
                              refine gops_nil ?_
                              refine hN44 _ _ ?_
                              refine gfrom [(0, .slice _ _ _), (3, .slice _ _ _), (16, .slice _ _ _), (17, .pointer _), (24, .pointer _), (204, .bool _)] ⟨rfl, rfl, rfl, rfl, rfl, rfl, trivial⟩ fun σ => ?_
                              refine gcond (b := _) rfl (fun hc204 => ?_) (fun hc204 => ?_)
                              · 
                                replace hc204 := of_decide_eq_true hc204
                                have hcap : capF ps = ⟨2, -2⟩ := by rw [capF, if_pos (by omega)]
                                refine greg ?_
                                refine gop_pure (e_call (vs := [_, _]) Tryd.func31 rfl (by kernel_rfl) rfl) (fun w hM => fault_any w _ _) rfl rfl rfl ?_
                                refine gop_store 14 (v := .agg #[_, _]) (cs' := #[_, _]) rfl rfl Tryd.sizeOf23 rfl rfl rfl rfl (Nat.le_of_ble_eq_true rfl) rfl rfl ?_
                                refine gops_nil ?_
                                rw [hcap]
                                refine gcut3_end (()) (trivial) trivial ⟨rfl, rfl, rfl, rfl, rfl, trivial⟩ ⟨_, rfl⟩
                              · 
                                replace hc204 := of_decide_eq_false hc204
                                have hcap : capF ps = ⟨0, 0⟩ := by rw [capF, if_neg (by omega)]
                                refine gskip ?_
                                rw [hcap]
                                refine gcut3_end (()) (trivial) trivial ⟨rfl, rfl, rfl, rfl, rfl, trivial⟩ ⟨_, rfl⟩
                            ·
                              intro g hcut σ
                              refine hN43 _ _ ?_
                              refine gseq fun N45 hN45 => ?_
                              refine gT [box b9 _, rowl _ _ _ _ _ _, fr30, box b11 _, rowl _ _ _ _ _ _, box b13 _, rowl _ _ _ _ _ _, box b15 _, rowl _ _ _ _ _ _, fr, box b17 _, box b18 _, rowl _ _ _ _ _ _, fw, box b24 _] rfl ?_
                              refine gfrom [(0, .slice _ _ _), (3, .slice _ _ _), (16, .slice _ _ _), (17, .pointer _), (24, .pointer _)] ⟨rfl, rfl, rfl, rfl, rfl, trivial⟩ fun σ => ?_
                              refine gcut3 (Lf := [(0, .slice _ _ _), (3, .slice _ _ _), (16, .slice _ _ _), (17, .pointer _), (24, .pointer _)]) (G := Unit) (fun g => True) (fun g => []) (fun g => [(14, box b24 (.cells #[.int .i64 (reqF (rls rs) ps).code, .int .i64 (reqF (rls rs) ps).index] 23))]) ⟨rfl, rfl, rfl, rfl, rfl, trivial⟩ ?_ ?_
                              ·
                                refine gseq fun N46 hN46 => ?_
                                refine greg ?_
                                refine gop (y_assign (v := .int _ _) rfl) rfl rfl rfl ?_
                                refine gops_nil ?_
                                refine hN46 _ _ ?_
                                refine gfrom [(0, .slice _ _ _), (3, .slice _ _ _), (16, .slice _ _ _), (17, .pointer _), (24, .pointer _), (25, .int _ _)] ⟨rfl, rfl, rfl, rfl, rfl, rfl, trivial⟩ fun σ => ?_
                                refine gblock ?_
                                refine gfrom2 [(25, .int _ _)] [(0, .slice _ _ _), (3, .slice _ _ _), (16, .slice _ _ _), (17, .pointer _), (24, .pointer _)] ⟨rfl, trivial⟩ ⟨rfl, rfl, rfl, rfl, rfl, trivial⟩ fun σ => ?_
                                refine gloop2 (G := Nat × Fault) (fun (k, q) => k ≤ ps.length ∧ Checking (rls rs) ps k q) (fun (k, q) => ps.length - k) (fun (k, q) => [(25, .int .i64 (k : Int))]) (fun (k, q) => [(14, box b24 (.cells #[.int .i64 (q).code, .int .i64 (q).index] 23))]) ((0, capF ps)) ?h0 ⟨rfl, trivial⟩ ⟨rfl, rfl, rfl, rfl, rfl, trivial⟩ rfl ?round
                                case h0 => exact ⟨Nat.zero_le _, Checking.zero hV⟩
                                case round =>
                                  rintro ⟨k, q⟩ hφ σ
                                  obtain ⟨hk, hck⟩ := hφ
                                  refine gT [box b9 _, rowl _ _ _ _ _ _, fr30, box b11 _, rowl _ _ _ _ _ _, box b13 _, rowl _ _ _ _ _ _, box b15 _, rowl _ _ _ _ _ _, fr, box b17 _, box b18 _, rowl _ _ _ _ _ _, fw, box _ _] rfl ?_
                                  refine gseq fun N47 hN47 => ?_
                                  refine gseq fun N48 hN48 => ?_
                                  refine greg ?_
                                  refine gop (y_move (v := .int _ _) rfl) rfl rfl rfl ?_
                                  refine gop (y_move (v := .slice _ _ _) rfl) rfl rfl rfl ?_
                                  refine gop (y_len Tryd.underlying37 rfl) rfl rfl rfl ?_
                                  refine gop (y_lss rfl rfl) rfl rfl rfl ?_
                                  refine gop (y_move (v := .bool _) rfl) rfl rfl rfl ?_
                                  refine gop_if (want := true) rfl rfl rfl rfl rfl rfl (fun hg210 => ?_) (fun hg210 => ?_)
                                  · 
                                    have hg210d := of_decide_eq_true hg210
                                    refine gop (y_bare (y_fieldAddr_box fa23_0 rfl)) rfl rfl rfl ?_
                                    refine gop_on rfl rfl rfl rfl hg210 ?_
                                    refine gop (y_bare (y_load Tryd.isAgg3 rfl (cell_box 14 rfl rfl))) rfl rfl rfl ?_
                                    refine gop_on rfl rfl rfl rfl hg210 ?_
                                    refine gop (y_bare (y_eql rfl rfl)) rfl rfl rfl ?_
                                    refine gop (y_pick_t (v := .bool _) rfl hg210 rfl) rfl rfl rfl ?_
                                    refine gops_nil ?_
                                    refine hN48 _ _ ?_
                                    refine gfrom [(0, .slice _ _ _), (3, .slice _ _ _), (16, .slice _ _ _), (17, .pointer _), (24, .pointer _), (25, .int _ _), (214, .bool _)] ⟨rfl, rfl, rfl, rfl, rfl, rfl, rfl, trivial⟩ fun σ => ?_
                                    refine gcond (b := _) rfl (fun hc214 => ?_) (fun hc214 => ?_)
                                    · 
                                      replace hc214 := of_decide_eq_true hc214
                                      have hk1 : k < ps.length := by omega
                                      obtain ⟨ad, rfl, -, hca⟩ := hps.at_ hk1
                                      have hp24 := (hck.good hc214).2.1
                                      refine gskip ?_
                                      refine hN47 _ _ ?_
                                      refine gfrom [(0, .slice _ _ _), (3, .slice _ _ _), (16, .slice _ _ _), (17, .pointer _), (24, .pointer _), (25, .int _ _)] ⟨rfl, rfl, rfl, rfl, rfl, rfl, trivial⟩ fun σ => ?_
                                      refine gseq fun N49 hN49 => ?_
                                      refine gblock ?_
                                      refine gseq fun N50 hN50 => ?_
                                      refine greg ?_
                                      refine gop (y_move (v := .slice _ _ _) rfl) rfl rfl rfl ?_
                                      refine gop (y_move (v := .int _ _) rfl) rfl rfl rfl ?_
                                      refine gop (y_indexAddr (m := k) Tryd.underlying37 Tryd.sizeOf9 rfl rfl (by omega) (by omega) (by omega)) rfl rfl rfl ?_
                                      refine gop (y_load Tryd.isAgg9 rfl (cell_base (hca 0 _ rfl))) rfl rfl rfl ?_
                                      refine gop_pure (e_call (vs := [.string _]) Tryd.func17 rfl (by kernel_rfl) rfl) (fun w hM => isPath_any w ps[k] (hpsz _ (List.getElem_mem hk1))) rfl rfl rfl ?_
                                      refine gop (y_not rfl) rfl rfl rfl ?_
                                      refine gops_nil ?_
                                      refine hN50 _ _ ?_
                                      refine gfrom [(0, .slice _ _ _), (3, .slice _ _ _), (16, .slice _ _ _), (17, .pointer _), (24, .pointer _), (25, .int _ _), (222, .bool _)] ⟨rfl, rfl, rfl, rfl, rfl, rfl, rfl, trivial⟩ fun σ => ?_
                                      refine gcond (b := _) rfl (fun hc222 => ?_) (fun hc222 => ?_)
                                      · 
                                        replace hc222 := not_t hc222
                                        refine greg ?_
                                        refine gop (y_move (v := .int _ _) rfl) rfl rfl rfl ?_
                                        refine gop (y_sub rfl rfl ⟨by omega, by omega⟩) rfl rfl rfl ?_
                                        refine gop_pure (e_call (vs := [_, .int _ _]) Tryd.func31 rfl (by kernel_rfl) rfl) (fun w hM => fault_any w _ _) rfl rfl rfl ?_
                                        refine gop_store 14 (v := .agg #[_, _]) (cs' := #[_, _]) rfl rfl Tryd.sizeOf23 rfl rfl rfl rfl (Nat.le_of_ble_eq_true rfl) rfl rfl ?_
                                        refine gops_nil ?_
                                        refine hN49 _ _ ?_
                                        refine gT [box b9 _, rowl _ _ _ _ _ _, fr30, box b11 _, rowl _ _ _ _ _ _, box b13 _, rowl _ _ _ _ _ _, box b15 _, rowl _ _ _ _ _ _, fr, box b17 _, box b18 _, rowl _ _ _ _ _ _, fw, box _ _] rfl ?_
                                        refine gfrom [(0, .slice _ _ _), (3, .slice _ _ _), (16, .slice _ _ _), (17, .pointer _), (24, .pointer _), (25, .int _ _)] ⟨rfl, rfl, rfl, rfl, rfl, rfl, trivial⟩ fun σ => ?_
                                        refine greg ?_
                                        refine gop (y_move (v := .int _ _) rfl) rfl rfl rfl ?_
                                        refine gop (y_add rfl rfl ⟨by omega, by omega⟩) rfl rfl rfl ?_
                                        refine gop (y_assign (v := .int _ _) rfl) rfl rfl rfl ?_
                                        refine gops_nil ?_
                                        refine gnext2 ((k + 1, ⟨12, -3 - k⟩)) (by show ps.length - (k + 1) < ps.length - k; omega) (⟨by show k + 1 ≤ _; omega, hck.bad hV hc214 hk1 hc222⟩) ⟨rfl, trivial⟩ ⟨rfl, rfl, rfl, rfl, rfl, trivial⟩ ⟨_, rfl⟩
                                      · 
                                        replace hc222 := not_f hc222
                                        refine gskip ?_
                                        refine hN49 _ _ ?_
                                        refine gfrom [(0, .slice _ _ _), (3, .slice _ _ _), (16, .slice _ _ _), (17, .pointer _), (24, .pointer _), (25, .int _ _)] ⟨rfl, rfl, rfl, rfl, rfl, rfl, trivial⟩ fun σ => ?_
                                        refine greg ?_
                                        refine gop (y_move (v := .int _ _) rfl) rfl rfl rfl ?_
                                        refine gop (y_add rfl rfl ⟨by omega, by omega⟩) rfl rfl rfl ?_
                                        refine gop (y_assign (v := .int _ _) rfl) rfl rfl rfl ?_
                                        refine gops_nil ?_
                                        refine gnext2 ((k + 1, q)) (by show ps.length - (k + 1) < ps.length - k; omega) (⟨by show k + 1 ≤ _; omega, hck.ok hc214 hk1 hc222⟩) ⟨rfl, trivial⟩ ⟨rfl, rfl, rfl, rfl, rfl, trivial⟩ ⟨_, rfl⟩
                                    · 
                                      replace hc214 := of_decide_eq_false hc214
                                      have hQ : reqF (rls rs) ps = q := hck.stop hV (fun h => by omega)
                                      refine gexit ?_
                                      rw [hQ]
                                      refine gcut3_end (()) (trivial) trivial ⟨rfl, rfl, rfl, rfl, rfl, trivial⟩ ⟨_, rfl⟩
                                  · 
                                    have hg210d := of_decide_eq_false hg210
                                    refine gop_off rfl rfl rfl rfl hg210 rfl rfl ?_
                                    refine gop_off rfl rfl rfl rfl hg210 rfl rfl ?_
                                    refine gop (y_pick_f (v := .bool _) rfl hg210 rfl) rfl rfl rfl ?_
                                    refine gops_nil ?_
                                    refine hN48 _ _ ?_
                                    refine gfrom [(0, .slice _ _ _), (3, .slice _ _ _), (16, .slice _ _ _), (17, .pointer _), (24, .pointer _), (25, .int _ _), (214, .bool _)] ⟨rfl, rfl, rfl, rfl, rfl, rfl, rfl, trivial⟩ fun σ => ?_
                                    refine gcond (b := _) rfl (fun hc214 => ?_) (fun hc214 => ?_)
                                    · 
                                      cases hc214
                                    · 
                                      have hQ : reqF (rls rs) ps = q := hck.stop hV (fun h => by omega)
                                      refine gexit ?_
                                      rw [hQ]
                                      refine gcut3_end (()) (trivial) trivial ⟨rfl, rfl, rfl, rfl, rfl, trivial⟩ ⟨_, rfl⟩
                              ·
                                intro g hcut σ
                                refine hN45 _ _ ?_
                                refine gseq fun N51 hN51 => ?_
                                refine gseq fun N52 hN52 => ?_
                                refine greg ?_
                                refine gop (y_fieldAddr_box fa23_0 rfl) rfl rfl rfl ?_
                                refine gop (y_load Tryd.isAgg3 rfl (cell_box 14 rfl rfl)) rfl rfl rfl ?_
                                refine gop (y_neq rfl rfl) rfl rfl rfl ?_
                                refine gops_nil ?_
                                refine hN52 _ _ ?_
                                refine gT [box b9 _, rowl _ _ _ _ _ _, fr30, box b11 _, rowl _ _ _ _ _ _, box b13 _, rowl _ _ _ _ _ _, box b15 _, rowl _ _ _ _ _ _, fr, box b17 _, box b18 _, rowl _ _ _ _ _ _, fw, box b24 _] rfl ?_
                                refine gfrom [(0, .slice _ _ _), (3, .slice _ _ _), (16, .slice _ _ _), (17, .pointer _), (24, .pointer _), (228, .bool _)] ⟨rfl, rfl, rfl, rfl, rfl, rfl, trivial⟩ fun σ => ?_
                                refine gcond (b := _) rfl (fun hc228 => ?_) (fun hc228 => ?_)
                                · 
                                  replace hc228 := of_decide_eq_true hc228
                                  have hQV : og.length = 0 := gps_nil (hog.trans (reqV_bad hc228))
                                  refine gseq fun N53 hN53 => ?_
                                  refine greg ?_
                                  refine gop (y_loads (cs := [_, _]) Tryd.isAgg23 Tryd.sizeOf23 rfl rfl (cells_box 10 rfl)) rfl rfl rfl ?_
                                  refine gop (y_loads (cs := [_, _]) Tryd.isAgg23 Tryd.sizeOf23 rfl rfl (cells_box 14 rfl)) rfl rfl rfl ?_
                                  refine gop (y_bin (vx := .agg #[_, _]) (vy := .agg #[_, _]) rfl rfl (fun w => eg23 _ _ _ _ _ w) (fun w => eq23 _ _ _ _ w)) rfl rfl rfl ?_
                                  refine gop (y_move (v := .bool _) rfl) rfl rfl rfl ?_
                                  refine gop_if (want := true) rfl rfl rfl rfl rfl rfl (fun hg232 => ?_) (fun hg232 => ?_)
                                  · 
                                    have hg232d := hg232
                                    refine gop (y_bare (y_move (v := .slice _ _ _) rfl)) rfl rfl rfl ?_
                                    refine gop_on rfl rfl rfl rfl hg232 ?_
                                    refine gop (y_bare (y_len Tryd.underlying44 rfl)) rfl rfl rfl ?_
                                    refine gop_on rfl rfl rfl rfl hg232 ?_
                                    refine gop (y_bare (y_eql rfl rfl)) rfl rfl rfl ?_
                                    refine gop (y_pick_t (v := .bool _) rfl hg232 rfl) rfl rfl rfl ?_
                                    refine gop (y_assign (v := .bool _) rfl) rfl rfl rfl ?_
                                    refine gops_nil ?_
                                    refine hN53 _ _ ?_
                                    refine gfrom [(8, .bool _)] ⟨rfl, trivial⟩ fun σ => ?_
                                    refine gret fun w1 hM => ?_
                                    refine ⟨_, res1 rfl (rt (v := .bool _) rfl), ?_⟩
                                    exact ⟨by rw [decide_eq_true (show ((og.length : Nat) : Int) = 0 by omega)], hM.low⟩
                                  · 
                                     simp at hg232
                                · 
                                  replace hc228 := Decidable.not_not.1 (of_decide_eq_false hc228)
                                  have hq0 : (reqF (rls rs) ps).code = 0 := hc228
                                  obtain ⟨hq1, -, hp24, hpk⟩ := reqF_code hq0
                                  refine gskip ?_
                                  refine hN51 _ _ ?_
                                  refine gfrom [(0, .slice _ _ _), (3, .slice _ _ _), (16, .slice _ _ _), (17, .pointer _)] ⟨rfl, rfl, rfl, rfl, trivial⟩ fun σ => ?_
                                  refine gseq fun N54 hN54 => ?_
                                  refine greg ?_
                                  refine gop (y_fieldAddr_box fa23_0 rfl) rfl rfl rfl ?_
                                  refine gop (y_load Tryd.isAgg3 rfl (cell_box 10 rfl rfl)) rfl rfl rfl ?_
                                  refine gop (y_eql rfl rfl) rfl rfl rfl ?_
                                  refine gop (y_move (v := .bool _) rfl) rfl rfl rfl ?_
                                  refine gop_if (want := true) rfl rfl rfl rfl rfl rfl (fun hg240 => ?_) (fun hg240 => ?_)
                                  · 
                                    have hg240d := of_decide_eq_true hg240
                                    refine gop (y_bare (y_move (v := .slice _ _ _) rfl)) rfl rfl rfl ?_
                                    refine gop_on rfl rfl rfl rfl hg240 ?_
                                    refine gop (y_bare (y_move (v := .slice _ _ _) rfl)) rfl rfl rfl ?_
                                    refine gop_on rfl rfl rfl rfl hg240 ?_
                                    refine gop (y_bare (y_move (v := .slice _ _ _) rfl)) rfl rfl rfl ?_
                                    refine gop_on rfl rfl rfl rfl hg240 ?_
                                    refine gop_got (fun v T' => ∃ lo og2, w.heap.size ≤ lo ∧ T' = [rowl gpCells lo 30 1 (v) (og2)] ∧ gps og2 = reqTo (groupsL (rls rs) ps) ps.length ∧ (∀ a ∈ og2, ∃ p, ownV rs p = .slice a.A a.pl.length a.c ∧ a.pl = findU (rls rs) p)) (e_call (vs := [.slice _ _ _, .slice _ _ _]) Tryd.func35 rfl (by kernel_rfl) rfl) (fun w hM => by have hc := refReq_any w A c rs (RulesR.lasts.base hR hM) PA pc ps (hps.base hM) hpl hpm hV hpk hp24; exact hc.mono fun _ _ ⟨v, T1, og2, h1, h2, h3, h4, h5⟩ => ⟨_, T1, h1, ⟨_, og2, hM.low.size, h2, h3, h4⟩, h5⟩) rfl rfl rfl ?_
                                    rintro v244 _ ⟨lo244, og2, hlo244, rfl, hog2, hg2⟩
                                    refine gops_fact (fun w hM => row_form (hM.ok _ (List.mem_of_getElem? (i := 15) rfl))) ?_
                                    rintro ⟨A244, c244, rfl, hc244, hm244, hn244⟩
                                    refine gop_on rfl rfl rfl rfl hg240 ?_
                                    refine gop_pure (e_call (vs := [.slice _ _ _, .slice A244 _ c244]) Tryd.func34 rfl (by kernel_rfl) rfl) (fun w hM => sameGroups_any w A47 A244 c47 c244 og og2 ((row_rdl (f := gpCells) (fun _ => rfl) (hM.ok _ (List.mem_of_getElem? (i := 8) rfl))).mono (Nat.zero_le _)) (hfr w (hM.ok _ (List.mem_of_getElem? (i := 9) rfl))) ((row_rdl (f := gpCells) (fun _ => rfl) (hM.ok _ (List.mem_of_getElem? (i := 15) rfl))).mono (Nat.zero_le _)) (fun a ha => grR_own (RulesR.lasts.base hR hM) (hg2 a ha)) (Nat.le_trans hc47 hm47)) rfl rfl rfl ?_
                                    refine gop (y_pick_t (v := .bool _) rfl hg240 rfl) rfl rfl rfl ?_
                                    refine gop (y_assign (v := .bool _) rfl) rfl rfl rfl ?_
                                    refine gops_nil ?_
                                    refine hN54 _ _ ?_
                                    refine gT [box b9 _, rowl _ _ _ _ _ _, fr30, box b11 _, rowl _ _ _ _ _ _, box b13 _, rowl _ _ _ _ _ _, box b15 _, rowl _ _ _ _ _ _, fr, box b17 _, box b18 _, rowl _ _ _ _ _ _, fw, box b24 _, rowl _ _ _ _ _ _] rfl ?_
                                    refine gfrom [(8, .bool _)] ⟨rfl, trivial⟩ fun σ => ?_
                                    refine gret fun w1 hM => ?_
                                    refine ⟨_, res1 rfl (rt (v := .bool _) rfl), ?_⟩
                                    exact ⟨by rw [decide_eq_true (show gps og = gps og2 by rw [hog, hog2, reqV, if_pos hq1])], hM.low⟩
                                  · 
                                     exact absurd hq0 (of_decide_eq_false hg240)
                  · 
                     exact absurd hv0 (of_decide_eq_true hg156)
            · 
               simp at hg116
  · 
     exact absurd hg52 (by decide)
end Go.Proofs.YtijpaljdclhehaaDoor
namespace Go.Cf
open Go.ChangeShapes Go.WideShapes Go.ChangeAt Go.RowKit Go.Deep
theorem law_lift_row {H : Type} {enc : TypeId × Value → H} {C : Checked} {os : Os} {f : FuncId} {fn : Func} {s : OpenSpec} {F : Stop.Interp} {conds : List PathCond} {tb : TypeId} {laid : List (String × DataW Unit)}
    (own : ownKnob C.prog.godebug = none) (started : os.Started) (noInit : C.prog.inits.idxOf? f = none) (hfn : C.prog.funcs[f]? = some fn)
    (witness : ∃ (w : World) (tape : Tape) (i : Input), w.os = os ∧ (w.forCall tape i).Shaped C.prog ∧ i.vars = [] ∧ Input.okWide C.prog (w.forCall tape i) .any w.heap.size f i ∧
      s.preRow enc C.prog fn conds false laid (w.forCall tape i).memory i.args ∧ Assume.holds {} C.prog (lone (Frame.enter C.prog f i.args .normal) [] (w.forCall tape i)))
    (hl : laidOutB C.prog = true) (hread : (fn.params.toList.all fun t => C.prog.readableRec t && decide (t < C.prog.types.size)) = true) (hres : fn.resultTypes = #[tb]) (htb : C.prog.underlying tb = some .bool) (hvars : s.vars = []) (hvars0 : (s.at F).vars = []) (hvt : s.bare.plain.varTypes C.prog = [])
    (hspec : ∀ ds : List (DataW H), ds.length = fn.params.size → ((s.at F).fn H (ds ++ [])).results = [.lit (.bool true)] ∧ ((s.at F).fn H (ds ++ [])).args = ds ∧ ((s.at F).fn H (ds ++ [])).vars = [])
    (contract : ∀ (W : World) (base : Nat) (args : Array Value) (ds : List (DataW H)) (p : List MemPlace),
      (∀ (j : Nat) t v, fn.params[j]? = some t → args[j]? = some v → Value.okWide C.prog W .any base t v) → DataW.TrodAll enc C.prog W 0 (fun _ => true) true fn.params.toList args.toList ds p →
      (DataW.weightsEach C.prog fn.params.toList ds).all (· ≤ reachBytes) = true → (∀ k, s.cond = some k → k H ds = true) → laidMetH C.prog laid W →
      Calls C.prog f args W fun e W' => e = .returned (.bool true) ∧ Below W.heap.size W W') :
    ReturnsInHanded {} C os f .any (s.preRow enc C.prog fn conds false laid) ((s.at F).post enc C.prog fn false true false false) := by
  refine returnsInHanded_of_row own started noInit hfn witness ?_
  intro W base args ds gs before hval hW _ hkk hsz hL _ _
  have hW' := hW
  obtain ⟨p, q, hA, hV, rfl, _, _⟩ := hW
  rw [hvars] at hV
  obtain ⟨rfl, rfl⟩ := trodVars_none hV
  have hlen : ds.length = fn.params.size := by
    have key : ∀ (ts : List TypeId) (vs : List Value) (ds : List (DataW H)) (p : List MemPlace), DataW.TrodAll enc C.prog W 0 (fun _ => true) true ts vs ds p → ds.length = ts.length := by
      intro ts
      induction ts with
      | nil => intro vs ds p h; obtain ⟨_, rfl, _⟩ := trodAll_nil h; rfl
      | cons t ts ih => intro vs ds p h; obtain ⟨v, vs', d, ds', p, q, rfl, rfl, rfl, _, h2⟩ := trodAll_cons h; simp [ih _ _ _ h2]
    rw [key _ _ _ _ hA]; simp
  have hw : (DataW.weightsEach C.prog fn.params.toList ds).all (· ≤ reachBytes) = true := by
    simpa [hvt] using hsz
  refine (contract W base args ds p hval hA hw (fun k hk => by simpa using hkk k hk) hL).mono fun e W' ⟨he, bel⟩ => ?_
  subst he
  obtain ⟨h1, h2, h3⟩ := hspec ds hlen
  have hr : ∀ t ∈ fn.params.toList, C.prog.readableRec t = true ∧ t < C.prog.types.size := by
    intro t ht
    have := List.all_eq_true.1 hread t ht
    simpa using this
  refine ⟨_, rfl, ds, [], p ++ [], [], p, [], hW', ?_, ?_, ?_, World.keptBut_mono (fun x hx => ⟨hx, ?_⟩) (bel.frame (· ∈ p ++ [])), fun h => by cases h⟩
  · rw [h1, hres]; exact trodAll_mk1 (shut_bool htb _)
  · rw [h2]; exact trodAll_below hl bel hr hA
  · rw [h3, hvars0]; rfl
  · right; left; simpa using hx
section
variable {H : Type} {enc : TypeId × Value → H} {P : Program} {w : World} {t : TypeId} {v : Value} {d : DataW H} {p : List MemPlace} {b0 : Nat}
theorem rd_string (ht : P.underlying t = some .string) (hok : Value.okWide P w .any b0 t v) (h : DataW.Trod enc P w 0 (fun _ => true) true t v d p) (hw : (d.weights P t).all (· ≤ reachBytes) = true) : ∃ s : ByteArray, v = .string s ∧ d = .lit (.string s.data.toList) ∧ s.size ≤ reachBytes := by
  obtain ⟨s, rfl⟩ := okWide_string ht hok
  obtain ⟨n, hn⟩ := h
  obtain ⟨a, h1, h2, _⟩ := DataW.trod_string ht hn
  have h3 : a = s := by simpa [Value.cells] using h1.symm
  subst h3
  have hd : d = .lit (.string a.data.toList) := congrArg Prod.fst h2
  subst hd
  refine ⟨a, rfl, rfl, ?_⟩
  have : a.data.toList.length = a.size := by rw [Array.length_toList]; rfl
  simpa [DataW.weights, this] using hw
end
end Go.Cf
namespace Go.Proofs.YtijpaljdclhehaaDoor
open Go.ChangeShapes Go.WideShapes Go.ChangeAt Go.RowKit Go.Cf
set_option maxRecDepth 10000
theorem ce_str : Tryd.prog.cellsOf 9 = 1 := by kernel_rfl
theorem ce_ints : Tryd.prog.cellsOf 30 = 1 := by kernel_rfl
theorem by_int : Tryd.prog.bytesOf 3 = 8 := by kernel_rfl
theorem by_rule : Tryd.prog.bytesOf 32 = 40 := by kernel_rfl
theorem el_rule {H : Type} {enc : TypeId × Value → H} {w : World} : ∀ (n : Nat) (cs : List Value) (x : DataW H × List MemPlace), DataW.trod enc Tryd.prog w 0 (fun _ => true) true n 32 cs = some x →
    (x.1.weights Tryd.prog 32).all (· ≤ reachBytes) = true → ∃ a : RuleC, cs = ruleCells a ∧ RuleR w 0 a := by
  intro n cs x h hw
  obtain ⟨m, hlen, hf⟩ := rd_struct Tryd.underlying32 h hw
  have hl : cs.length = 2 := hlen.trans (by kernel_rfl)
  match cs, hl with
  | [c0, c1], _ =>
    obtain ⟨y0, f0, w0⟩ := hf 0 _ rfl
    obtain ⟨y1, f1, w1⟩ := hf 1 _ rfl
    simp [ce_str, ce_ints] at f0 f1
    obtain ⟨a0, e0, _⟩ := el_str Tryd.underlying9 m _ _ f0 w0
    obtain ⟨A1, c1', l1, e1, r1, s1, m1, n1, t1, _⟩ := rd_cells Tryd.underlying30 (by kernel_rfl) (el_int Tryd.underlying3) f1 w1
    simp at e0 e1
    subst e0 e1
    rw [by_int] at t1
    exact ⟨⟨⟨a0, l1⟩, A1, c1'⟩, rfl, ⟨r1, ⟨s1, m1, n1, Nat.le_trans (Nat.mul_le_mul_right _ s1) t1⟩⟩⟩
end Go.Proofs.YtijpaljdclhehaaDoor
namespace Go.Proofs.YtijpaljdclhehaaDoor
open Go.ChangeShapes Go.WideShapes Go.ChangeAt Go.RowKit Go.Cf Go.Deep
theorem bulk_mem {H : Type} {d : DataW H} : ∀ {l : List (DataW H)}, d ∈ l → Rows.uptoBulk d ≤ Rows.uptoBulkAll l
  | [], h => by cases h
  | x :: l, h => by
    simp only [Rows.uptoBulkAll]
    rcases List.mem_cons.1 h with rfl | h
    · omega
    · have := bulk_mem h; omega
theorem rd_slice_b {H : Type} {enc : TypeId × Value → H} {P : Program} {w : World} {t e : TypeId} {v : Value} {d : DataW H} {p : List MemPlace} {b0 N : Nat} {α : Type} {f : α → List Value} {size : Nat} {Q : α → Prop} (ht : P.underlying t = some (.slice e)) (hC : P.cellsOf e = size)
    (hel : ∀ (n : Nat) (cs : List Value) (x : DataW H × List MemPlace), DataW.trod enc P w 0 (fun _ => true) true n e cs = some x → (x.1.weights P e).all (· ≤ reachBytes) = true → Rows.uptoBulk x.1 ≤ N → ∃ a, cs = f a ∧ Q a)
    (hok : Value.okWide P w .any b0 t v) (h : DataW.Trod enc P w 0 (fun _ => true) true t v d p) (hw : (d.weights P t).all (· ≤ reachBytes) = true) (hb : Rows.uptoBulk d ≤ N) :
    ∃ (A : Option Addr) (c : Nat) (l : List α), v = .slice A l.length c ∧ Rdl w 0 size f A l ∧ l.length ≤ c ∧ c ≤ maxLen ∧ (A = none → c = 0) ∧ c * P.bytesOf e ≤ reachBytes ∧ ∀ a ∈ l, Q a := by
  obtain ⟨a0, len0, cap0, rfl⟩ := okWide_slice ht hok
  obtain ⟨fuel, hf⟩ := h
  rcases open_slice ht hf with ⟨h0, h1⟩ | ⟨a, len, cap, m, n, D, Pl, hcs, hblk, hlc, hm, hmm, hx, hi⟩
  · simp only [Value.cells, List.cons.injEq, and_true] at h0
    exact ⟨none, 0, [], by simpa using h0, Rdl.nil, Nat.le_refl _, by unfold maxLen; omega, fun _ => rfl, by simp, fun a ha => by cases ha⟩
  · simp only [if_true] at hmm
    obtain rfl : m = cap := hmm
    have hd := congrArg Prod.fst hx
    simp only at hd
    rw [hd] at hb hw
    simp only [DataW.weights, ht, List.all_cons, List.all_append, Bool.and_eq_true, decide_eq_true_eq, List.length_map, List.length_range] at hw
    obtain ⟨hw1, hw2, _⟩ := hw
    have hw2' := weights_all hw2
    simp only [Rows.uptoBulk] at hb
    obtain ⟨l, hl, hq⟩ := choose_list len (fun i a' => Q a' ∧ ∀ j u, (f a')[j]? = some u → w.cell? (a.add (i * size + j)) = some u) (fun i hlt => by
      obtain ⟨cs', hc, ht'⟩ := hi i (by omega)
      have hmem : D i ∈ (List.range len).map D := List.mem_map.2 ⟨i, by simpa using hlt, rfl⟩
      have hbm := bulk_mem hmem
      obtain ⟨a', he, hqa⟩ := hel n cs' (D i, Pl i) ht' (hw2' (D i) hmem) (show Rows.uptoBulk (D i) ≤ N by omega)
      refine ⟨a', hqa, fun j u hu => ?_⟩
      obtain ⟨_, hcl, hat⟩ := World.cells?_some hc
      rw [← he] at hu
      have hj : j < P.cellsOf e := by
        rcases Nat.lt_or_ge j (P.cellsOf e) with h | h
        · exact h
        · rw [List.getElem?_eq_none (by omega)] at hu; cases hu
      have := hat j hj
      rw [hu, hC, Go.Cf.add_add] at this
      exact this)
    have hlm : len + (m - len) = m := by omega
    rw [hlm] at hw1
    simp only [Value.cells, List.cons.injEq, and_true] at hcs
    refine ⟨some a, m, l, by rw [hcs, hl], fun _ => ⟨a, rfl, Nat.zero_le _, fun k x hk => (hq k x hk).2⟩, by omega, hm, (fun h => by cases h), hw1, fun b hb => ?_⟩
    obtain ⟨k, hk⟩ := List.mem_iff_getElem?.1 hb
    exact (hq k b hk).1
theorem el_str_b {H : Type} {enc : TypeId × Value → H} {P : Program} {w : World} {e : TypeId} {N : Nat} (ht : P.underlying e = some .string) :
    ∀ (n : Nat) (cs : List Value) (x : DataW H × List MemPlace), DataW.trod enc P w 0 (fun _ => true) true n e cs = some x → (x.1.weights P e).all (· ≤ reachBytes) = true → Rows.uptoBulk x.1 ≤ N → ∃ a : ByteArray, cs = strCells a ∧ a.size ≤ N := by
  intro n cs x h _ hb
  obtain ⟨a, h1, h2, _⟩ := DataW.trod_string ht h
  refine ⟨a, h1, ?_⟩
  rw [show x.1 = _ from congrArg Prod.fst h2] at hb
  have : a.data.toList.length = a.size := by rw [Array.length_toList]; rfl
  simp only [Rows.uptoBulk] at hb
  omega
end Go.Proofs.YtijpaljdclhehaaDoor
namespace Go.Proofs.YtijpaljdclhehaaDoor
open Go.ChangeShapes Go.WideShapes Go.ChangeAt Go.RowKit Go.Cf
set_option maxRecDepth 100000 in
theorem ownersFunctionsMatchSpec_lifted (os : Os) (started : os.Started) (H : Type) (enc : TypeId × Value → H) (F : Stop.Interp) :
    ReturnsInHanded {} Tryd.checked os 10 .any ((Rows.OpenSpec.upto Rows.ownersFunctionsMatchSpecSpec).preRow enc Tryd.prog Tryd.f10 Rows.ownersFunctionsMatchSpecUptoRow.domain false Rows.ownersFunctionsMatchSpecUptoRow.laid) (((Rows.OpenSpec.upto Rows.ownersFunctionsMatchSpecSpec).at F).post enc Tryd.prog Tryd.f10 false true false false) := by
  refine law_lift_row (C := Tryd.checked) (s := Rows.OpenSpec.upto Rows.ownersFunctionsMatchSpecSpec) (tb := 4) (by kernel_rfl) started (by kernel_rfl) Tryd.func10
    (witness_row_at (enc := enc) (C := Tryd.checked) false ({ (World.holding Tryd.prog os ⟨#[], #[], []⟩) with heap := ((World.holding Tryd.prog os ⟨#[], #[], []⟩).heap.modify 1 fun | .cells _ t fz => .cells (Go.Pinned.utf8FirstZ.map fun n : Nat => Value.int .u8 (n : Int)).toArray t fz | o => o).modify 2 fun | .cells _ t fz => .cells (([128, 191, 160, 191, 128, 159, 144, 191, 128, 143, 0, 0, 0, 0, 0, 0, 0, 0, 0, 0, 0, 0, 0, 0, 0, 0, 0, 0, 0, 0, 0, 0] : List Nat).map fun n : Nat => Value.int .u8 (n : Int)).toArray t fz | o => o } : World) #[.slice none 0 0, .slice none 0 0, .string .empty, .slice none 0 0] rfl (by kernel_rfl) (by kernel_rfl) (by kernel_rfl)
      (OpenSpec.preRow_of_cond 8 (show DataW.whole enc Tryd.prog _ Tryd.f10.params.toList _ false _ 8 = some ([.nil, .nil, .lit (.string []), .nil], [], []) by kernel_rfl) (by kernel_rfl) (fun k hk => by cases hk; kernel_rfl) (by kernel_rfl) (laidMet_of_run' 8 (by kernel_rfl) (by kernel_rfl))))
    (by kernel_rfl) (by kernel_rfl) (by kernel_rfl) Tryd.underlying4 rfl rfl rfl ?_ ?_
  · intro ds hds
    rw [show Tryd.f10.params.size = 4 from by rw [Tryd.params10]; rfl] at hds
    match ds, hds with
    | [d0, d1, d2, d3], _ => exact ⟨rfl, rfl, rfl⟩
  · intro W base args ds p hval hA hw hk hL
    rw [show Tryd.f10.params.toList = [29, 37, 9, 37] from by rw [Tryd.params10]] at hA hw
    rw [Tryd.params10] at hval
    obtain ⟨v0, vs0, d0, ds0, p0, q0, hargs, rfl, rfl, h0, r0⟩ := trodAll_cons hA
    obtain ⟨v1, vs1, d1, ds1, p1, q1, rfl, rfl, rfl, h1, r1⟩ := trodAll_cons r0
    obtain ⟨v2, vs2, d2, ds2, p2, q2, rfl, rfl, rfl, h2, r2⟩ := trodAll_cons r1
    obtain ⟨v3, vs3, d3, ds3, p3, q3, rfl, rfl, rfl, h3, r3⟩ := trodAll_cons r2
    obtain ⟨rfl, rfl, rfl⟩ := trodAll_nil r3
    obtain rfl : args = #[v0, v1, v2, v3] := by cases args; simp_all
    obtain ⟨w0, hw⟩ := weights_each hw
    obtain ⟨w1, hw⟩ := weights_each hw
    obtain ⟨w2, hw⟩ := weights_each hw
    obtain ⟨w3, hw⟩ := weights_each hw
    have hb : Rows.uptoBulkAll [d0, d1, d2, d3] ≤ 1048576 := of_decide_eq_true (hk _ rfl)
    simp only [Rows.uptoBulkAll] at hb
    obtain ⟨A0, c0, l0, rfl, hv0, hlc0, hcm0, hA0, hcb0, hQ0⟩ := rd_slice Tryd.underlying29 (by kernel_rfl) el_rule (hval 0 29 v0 rfl rfl) h0 w0
    have hR0 : RulesR W 0 A0 c0 l0 := ⟨hv0, hQ0, ⟨hlc0, hcm0, hA0, Nat.le_trans (Nat.mul_le_mul_right _ hlc0) (by rw [by_rule] at hcb0; exact hcb0)⟩⟩
    obtain ⟨A1, c1, l1, rfl, hv1, hlc1, hcm1, hA1, hcb1, hQ1⟩ := rd_slice Tryd.underlying37 (by kernel_rfl) (el_str Tryd.underlying9) (hval 1 37 v1 rfl rfl) h1 w1
    obtain ⟨s2, rfl, rfl, hs2⟩ := rd_string Tryd.underlying9 (hval 2 9 v2 rfl rfl) h2 w2
    obtain ⟨A3, c3, l3, rfl, hv3, hlc3, hcm3, hA3, hcb3, hQ3⟩ := rd_slice_b (N := 1048576) Tryd.underlying37 (by kernel_rfl) (el_str_b Tryd.underlying9) (hval 3 37 v3 rfl rfl) h3 w3 (by omega)
    have hz2 : s2.size ≤ 1048576 := by
      have h9 : s2.data.toList.length = s2.size := by rw [Array.length_toList]; rfl
      simp only [Rows.uptoBulk] at hb
      omega
    exact law26_any W A0 c0 l0 hR0 A1 c1 l1 hv1 hlc1 hcm1 s2 (by omega) A3 c3 l3 hv3 hlc3 hcm3 (fun p hp => Nat.le_trans (hQ3 p hp) (by decide))
theorem ownersFunctionsMatchSpec_said : Rows.OwnersFunctionsMatchSpecUptoSaid :=
  OpenClaim.holds_of_cond 10 Tryd.f10 rfl rfl rfl rfl rfl rfl rfl ⟨rfl, rfl, rfl, rfl, rfl⟩ rfl rfl rfl rfl rfl (by kernel_rfl) Tryd.func10 (by kernel_rfl)
    (of_decide_eq_true (by kernel_rfl)) (by unfold Func.isWrapper; first | (rw [if_pos (by decide +kernel)]; kernel_rfl) | (rw [if_neg (by decide +kernel)]; exact ⟨rfl, rfl⟩))
    (fun os started H enc _ F => by rw [OpenClaim.pre_eq_preRow]; exact ownersFunctionsMatchSpec_lifted os started H enc F)
theorem ownersFunctionsMatchSpec_plain (f : FuncId) (fn : Func) (hf : Tryd.pinned.checked.prog.funcNamed "changeforge/changeforgelaw7.OwnersFunctionsMatchSpec" = some f) (hfn : Tryd.pinned.checked.prog.funcs[f]? = some fn) :
    false = Tryd.pinned.checked.prog.looks [] ∧ ∀ (j : Nat) t, fn.params[j]? = some t → Tryd.pinned.checked.prog.wantsStandIn t = false := by
  obtain rfl : f = 10 := Option.some.inj ((show Tryd.prog.funcNamed "changeforge/changeforgelaw7.OwnersFunctionsMatchSpec" = some 10 by kernel_rfl).symm.trans hf) |>.symm
  obtain rfl : fn = Tryd.f10 := (Option.some.inj (Tryd.func10.symm.trans hfn)).symm
  refine ⟨by kernel_rfl, fun j t ht => ?_⟩
  rw [Tryd.params10] at ht
  have hm : t ∈ [29, 37, 9, 37] := by simpa using Array.mem_of_getElem? ht
  have hall : ([29, 37, 9, 37].all fun u => !Tryd.prog.wantsStandIn u) = true := by kernel_rfl
  exact (show Tryd.prog.wantsStandIn t = false by simpa using List.all_eq_true.1 hall t hm)
theorem ownersFunctionsMatchSpec_holds : Rows.OwnersFunctionsMatchSpecUptoCardSaid :=
  Claim7.holds_tied_plain_at .later [] _ _ _ _ ownersFunctionsMatchSpec_said (fun _ h => by cases h) (by kernel_rfl) (fun _ h => by cases h) ownersFunctionsMatchSpecUpto_row_tie rfl ⟨rfl, rfl⟩ (by kernel_rfl) rfl ownersFunctionsMatchSpec_plain (by kernel_rfl)
end Go.Proofs.YtijpaljdclhehaaDoor
