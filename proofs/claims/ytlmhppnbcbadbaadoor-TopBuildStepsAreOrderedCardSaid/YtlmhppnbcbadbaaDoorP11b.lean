/- Own frame, plain models and walks, part 2 (texts of this claim put together). -/
import Derived.Test.YtlmhppnbcbadbaaDoorP11a
namespace Go.Proofs.YtlmhppnbcbadbaaDoor
open Go.RowKit Go.Cf
set_option maxRecDepth 10000
set_option maxHeartbeats 1000000 in
theorem idxFuncI_any (w : World) (A : Option Addr) (c : Nat) (l : List Int) (hl : Rdl w 0 1 intCells A l) (hn : l.length ≤ maxLen) (gf : FuncId) (fn : Func) (hgf : Tryd.prog.funcs[gf]? = some fn) (hgb : fn.body.isSome = true) (hgn : (fn.name == "runtime.NumGoroutine") = false) (cs : List Value) (p : Int → Bool) (hcl : ∀ k (h : k < l.length) w1, Below w.heap.size w w1 → Calls Tryd.prog gf (([.int .i64 l[k]] : List Value) ++ cs).toArray w1 (fun e w2 => e = .returned (.bool (p l[k])) ∧ Below w1.heap.size w1 w2)) : Calls Tryd.prog 19 #[.slice A l.length c, .func (.func gf) #[] cs.toArray] w fun e w' => e = .returned (.int .i64 (idxP p l)) ∧ Below w.heap.size w w' := by
  unfold maxLen at hn
  refine gcalls Tryd.func19 rfl Tryd.ntmps19 (Nat.le_of_ble_eq_true rfl) ?_
  refine gfrom [(0, .slice _ _ _), (1, .func (.func gf) #[] cs.toArray)] ⟨rfl, rfl, trivial⟩ fun σ => ?_
  refine gseq fun N1 hN1 => ?_
  refine greg ?_
  refine gop (y_assign (v := .int _ _) rfl) rfl rfl rfl ?_
  refine gops_nil ?_
  refine hN1 _ _ ?_
  refine gfrom [(0, .slice _ _ _), (1, .func (.func gf) #[] cs.toArray)] ⟨rfl, rfl, trivial⟩ fun σ => ?_
  refine gseq fun N2 hN2 => ?_
  refine gseq fun N3 hN3 => ?_
  refine greg ?_
  refine gop (y_move (v := .slice _ _ _) rfl) rfl rfl rfl ?_
  refine gop (y_len Tryd.underlying28 rfl) rfl rfl rfl ?_
  refine gop (y_move (v := .int _ _) rfl) rfl rfl rfl ?_
  refine gops_nil ?_
  refine hN3 _ _ ?_
  refine gfrom [(0, .slice _ _ _), (1, .func (.func gf) #[] cs.toArray), (7, .int _ _), (8, .int _ _)] ⟨rfl, rfl, rfl, rfl, trivial⟩ fun σ => ?_
  refine gblock ?_
  refine gfrom2 [(8, .int _ _)] [(0, .slice _ _ _), (1, .func (.func gf) #[] cs.toArray), (7, .int _ _)] ⟨rfl, trivial⟩ ⟨rfl, rfl, rfl, trivial⟩ fun σ => ?_
  refine gloop2 (G := Nat) (fun k => k ≤ l.length ∧ ∀ j (h : j < l.length), j < k → p l[j] = false) (fun k => l.length - k) (fun k => [(8, .int .i64 (k : Int))]) (fun k => []) (0) ?h0 ⟨rfl, trivial⟩ ⟨rfl, rfl, rfl, trivial⟩ rfl ?round
  case h0 => exact ⟨Nat.zero_le _, fun _ _ h => absurd h (by omega)⟩
  case round =>
    intro k hφ σ
    obtain ⟨hk, hz⟩ := hφ
    refine gseq fun N4 hN4 => ?_
    refine greg ?_
    refine gop (y_lss rfl rfl) rfl rfl rfl ?_
    refine gops_nil ?_
    refine hN4 _ _ ?_
    refine gfrom [(0, .slice _ _ _), (1, .func (.func gf) #[] cs.toArray), (7, .int _ _), (8, .int _ _), (9, .bool _)] ⟨rfl, rfl, rfl, rfl, rfl, trivial⟩ fun σ => ?_
    refine gseq fun N5 hN5 => ?_
    refine gcond (b := _) rfl (fun hc9 => ?_) (fun hc9 => ?_)
    · 
      replace hc9 := of_decide_eq_true hc9
      have hk1 : k < l.length := by omega
      obtain ⟨ad, rfl, -, hca⟩ := hl.at_ hk1
      refine gskip ?_
      refine hN5 _ _ ?_
      refine gfrom [(0, .slice _ _ _), (1, .func (.func gf) #[] cs.toArray), (7, .int _ _), (8, .int _ _)] ⟨rfl, rfl, rfl, rfl, trivial⟩ fun σ => ?_
      refine gseq fun N6 hN6 => ?_
      refine gblock ?_
      refine gseq fun N7 hN7 => ?_
      refine greg ?_
      refine gop (y_move (v := .int _ _) rfl) rfl rfl rfl ?_
      refine gop (y_assign (v := .int _ _) rfl) rfl rfl rfl ?_
      refine gops_nil ?_
      refine hN7 _ _ ?_
      refine gfrom [(0, .slice _ _ _), (1, .func (.func gf) #[] cs.toArray), (5, .int _ _), (7, .int _ _), (8, .int _ _)] ⟨rfl, rfl, rfl, rfl, rfl, trivial⟩ fun σ => ?_
      refine gseq fun N8 hN8 => ?_
      refine greg ?_
      refine gop (y_move (v := .func (.func gf) #[] cs.toArray) rfl) rfl rfl rfl ?_
      refine gop (y_move (v := .slice _ _ _) rfl) rfl rfl rfl ?_
      refine gop (y_move (v := .int _ _) rfl) rfl rfl rfl ?_
      refine gop (y_indexAddr (m := k) Tryd.underlying28 Tryd.sizeOf3 rfl rfl (by omega) (by omega) (by omega)) rfl rfl rfl ?_
      refine gop (y_load Tryd.isAgg3 rfl (cell_base (hca 0 _ rfl))) rfl rfl rfl ?_
      refine gop_pure (e_callv (vs := [.int _ _]) (cs := cs) rfl hgf hgb hgn rfl) (fun w hM => hcl k hk1 w hM.low) rfl rfl rfl ?_
      refine gops_nil ?_
      refine hN8 _ _ ?_
      refine gfrom [(0, .slice _ _ _), (1, .func (.func gf) #[] cs.toArray), (5, .int _ _), (7, .int _ _), (8, .int _ _), (16, .bool _)] ⟨rfl, rfl, rfl, rfl, rfl, rfl, trivial⟩ fun σ => ?_
      refine gcond (b := _) rfl (fun hc16 => ?_) (fun hc16 => ?_)
      · 
        refine gseq fun N9 hN9 => ?_
        refine greg ?_
        refine gop (y_move (v := .int _ _) rfl) rfl rfl rfl ?_
        refine gop (y_assign (v := .int _ _) rfl) rfl rfl rfl ?_
        refine gops_nil ?_
        refine hN9 _ _ ?_
        refine gfrom [(4, .int _ _)] ⟨rfl, trivial⟩ fun σ => ?_
        refine gret fun w1 hM => ?_
        refine ⟨_, res1 rfl (rt (v := .int _ _) rfl), ?_⟩
        exact ⟨by rw [idxP_hit (p := p) hk1 hz hc16], hM.low⟩
      · 
        refine gskip ?_
        refine hN6 _ _ ?_
        refine gfrom [(0, .slice _ _ _), (1, .func (.func gf) #[] cs.toArray), (7, .int _ _), (8, .int _ _)] ⟨rfl, rfl, rfl, rfl, trivial⟩ fun σ => ?_
        refine greg ?_
        refine gop (y_add rfl rfl ⟨by omega, by omega⟩) rfl rfl rfl ?_
        refine gop (y_move (v := .int _ _) rfl) rfl rfl rfl ?_
        refine gops_nil ?_
        refine gnext2 (k + 1) (by omega) (⟨by omega, fun j h hj => by rcases Nat.lt_succ_iff_lt_or_eq.1 hj with h1 | rfl; exact hz j h h1; exact hc16⟩) ⟨rfl, trivial⟩ ⟨rfl, rfl, rfl, trivial⟩ ⟨_, rfl⟩
    · 
      replace hc9 := of_decide_eq_false hc9
      have hI := idxP_none (p := p) (l := l) (fun j hj => hz j hj (by omega))
      refine gexit ?_
      refine hN2 _ _ ?_
      refine gfrom [] trivial fun σ => ?_
      refine gseq fun N10 hN10 => ?_
      refine greg ?_
      refine gop (y_assign (v := .int _ _) rfl) rfl rfl rfl ?_
      refine gops_nil ?_
      refine hN10 _ _ ?_
      refine gfrom [(4, .int _ _)] ⟨rfl, trivial⟩ fun σ => ?_
      refine gret fun w1 hM => ?_
      refine ⟨_, res1 rfl (rt (v := .int _ _) rfl), ?_⟩
      exact ⟨by rw [hI], hM.low⟩
set_option maxHeartbeats 1000000 in
theorem contFuncI_any (w : World) (A : Option Addr) (c : Nat) (l : List Int) (hl : Rdl w 0 1 intCells A l) (hn : l.length ≤ maxLen) (gf : FuncId) (fn : Func) (hgf : Tryd.prog.funcs[gf]? = some fn) (hgb : fn.body.isSome = true) (hgn : (fn.name == "runtime.NumGoroutine") = false) (cs : List Value) (p : Int → Bool) (hcl : ∀ k (h : k < l.length) w1, Below w.heap.size w w1 → Calls Tryd.prog gf (([.int .i64 l[k]] : List Value) ++ cs).toArray w1 (fun e w2 => e = .returned (.bool (p l[k])) ∧ Below w1.heap.size w1 w2)) : Calls Tryd.prog 11 #[.slice A l.length c, .func (.func gf) #[] cs.toArray] w fun e w' => e = .returned (.bool (l.any p)) ∧ Below w.heap.size w w' := by
  refine gcalls Tryd.func11 rfl Tryd.ntmps11 (Nat.le_of_ble_eq_true rfl) ?_
  refine gfrom [(0, .slice _ _ _), (1, .func (.func gf) #[] cs.toArray)] ⟨rfl, rfl, trivial⟩ fun σ => ?_
  refine gseq fun N1 hN1 => ?_
  refine greg ?_
  refine gop (y_assign (v := .bool _) rfl) rfl rfl rfl ?_
  refine gops_nil ?_
  refine hN1 _ _ ?_
  refine gfrom [(0, .slice _ _ _), (1, .func (.func gf) #[] cs.toArray)] ⟨rfl, rfl, trivial⟩ fun σ => ?_
  refine gseq fun N2 hN2 => ?_
  refine greg ?_
  refine gop (y_move (v := .slice _ _ _) rfl) rfl rfl rfl ?_
  refine gop (y_move (v := .func (.func gf) #[] cs.toArray) rfl) rfl rfl rfl ?_
  refine gop_pure (e_call (vs := [.slice _ _ _, .func (.func gf) #[] cs.toArray]) Tryd.func19 rfl (by kernel_rfl) rfl) (fun w hM => idxFuncI_any w A c l (hl.base hM) hn gf fn hgf hgb hgn cs p (fun k hk w1 hb => hcl k hk w1 (hM.call hb).low)) rfl rfl rfl ?_
  refine gop (y_geq rfl rfl) rfl rfl rfl ?_
  refine gop (y_assign (v := .bool _) rfl) rfl rfl rfl ?_
  refine gops_nil ?_
  refine hN2 _ _ ?_
  refine gfrom [(4, .bool _)] ⟨rfl, trivial⟩ fun σ => ?_
  refine gret fun w1 hM => ?_
  refine ⟨_, res1 rfl (rt (v := .bool _) rfl), ?_⟩
  exact ⟨by rw [idxP_any], hM.low⟩
set_option maxHeartbeats 1000000 in
theorem indexI_any (w : World) (A : Option Addr) (c : Nat) (l : List Int) (hl : Rdl w 0 1 intCells A l) (hn : l.length ≤ maxLen) (x : Int) : Calls Tryd.prog 25 #[.slice A l.length c, .int .i64 x] w fun e w' => e = .returned (.int .i64 (idxP (fun y => decide (x = y)) l)) ∧ Below w.heap.size w w' := by
  unfold maxLen at hn
  refine gcalls Tryd.func25 rfl Tryd.ntmps25 (Nat.le_of_ble_eq_true rfl) ?_
  refine gfrom [(0, .slice _ _ _), (1, .int _ _)] ⟨rfl, rfl, trivial⟩ fun σ => ?_
  refine gseq fun N1 hN1 => ?_
  refine greg ?_
  refine gop (y_assign (v := .int _ _) rfl) rfl rfl rfl ?_
  refine gops_nil ?_
  refine hN1 _ _ ?_
  refine gfrom [(0, .slice _ _ _), (1, .int _ _)] ⟨rfl, rfl, trivial⟩ fun σ => ?_
  refine gseq fun N2 hN2 => ?_
  refine gseq fun N3 hN3 => ?_
  refine greg ?_
  refine gop (y_move (v := .slice _ _ _) rfl) rfl rfl rfl ?_
  refine gop (y_len Tryd.underlying28 rfl) rfl rfl rfl ?_
  refine gop (y_move (v := .int _ _) rfl) rfl rfl rfl ?_
  refine gops_nil ?_
  refine hN3 _ _ ?_
  refine gfrom [(0, .slice _ _ _), (1, .int _ _), (7, .int _ _), (8, .int _ _)] ⟨rfl, rfl, rfl, rfl, trivial⟩ fun σ => ?_
  refine gblock ?_
  refine gfrom2 [(8, .int _ _)] [(0, .slice _ _ _), (1, .int _ _), (7, .int _ _)] ⟨rfl, trivial⟩ ⟨rfl, rfl, rfl, trivial⟩ fun σ => ?_
  refine gloop2 (G := Nat) (fun k => k ≤ l.length ∧ ∀ j (h : j < l.length), j < k → decide (x = l[j]) = false) (fun k => l.length - k) (fun k => [(8, .int .i64 (k : Int))]) (fun k => []) (0) ?h0 ⟨rfl, trivial⟩ ⟨rfl, rfl, rfl, trivial⟩ rfl ?round
  case h0 => exact ⟨Nat.zero_le _, fun _ _ h => absurd h (by omega)⟩
  case round =>
    intro k hφ σ
    obtain ⟨hk, hz⟩ := hφ
    refine gseq fun N4 hN4 => ?_
    refine greg ?_
    refine gop (y_lss rfl rfl) rfl rfl rfl ?_
    refine gops_nil ?_
    refine hN4 _ _ ?_
    refine gfrom [(0, .slice _ _ _), (1, .int _ _), (7, .int _ _), (8, .int _ _), (9, .bool _)] ⟨rfl, rfl, rfl, rfl, rfl, trivial⟩ fun σ => ?_
    refine gseq fun N5 hN5 => ?_
    refine gcond (b := _) rfl (fun hc9 => ?_) (fun hc9 => ?_)
    · 
      replace hc9 := of_decide_eq_true hc9
      have hk1 : k < l.length := by omega
      obtain ⟨ad, rfl, -, hca⟩ := hl.at_ hk1
      refine gskip ?_
      refine hN5 _ _ ?_
      refine gfrom [(0, .slice _ _ _), (1, .int _ _), (7, .int _ _), (8, .int _ _)] ⟨rfl, rfl, rfl, rfl, trivial⟩ fun σ => ?_
      refine gseq fun N6 hN6 => ?_
      refine gblock ?_
      refine gseq fun N7 hN7 => ?_
      refine greg ?_
      refine gop (y_move (v := .int _ _) rfl) rfl rfl rfl ?_
      refine gop (y_assign (v := .int _ _) rfl) rfl rfl rfl ?_
      refine gops_nil ?_
      refine hN7 _ _ ?_
      refine gfrom [(0, .slice _ _ _), (1, .int _ _), (5, .int _ _), (7, .int _ _), (8, .int _ _)] ⟨rfl, rfl, rfl, rfl, rfl, trivial⟩ fun σ => ?_
      refine gseq fun N8 hN8 => ?_
      refine greg ?_
      refine gop (y_move (v := .int _ _) rfl) rfl rfl rfl ?_
      refine gop (y_move (v := .slice _ _ _) rfl) rfl rfl rfl ?_
      refine gop (y_move (v := .int _ _) rfl) rfl rfl rfl ?_
      refine gop (y_indexAddr (m := k) Tryd.underlying28 Tryd.sizeOf3 rfl rfl (by omega) (by omega) (by omega)) rfl rfl rfl ?_
      refine gop (y_load Tryd.isAgg3 rfl (cell_base (hca 0 _ rfl))) rfl rfl rfl ?_
      refine gop (y_eql rfl rfl) rfl rfl rfl ?_
      refine gops_nil ?_
      refine hN8 _ _ ?_
      refine gfrom [(0, .slice _ _ _), (1, .int _ _), (5, .int _ _), (7, .int _ _), (8, .int _ _), (16, .bool _)] ⟨rfl, rfl, rfl, rfl, rfl, rfl, trivial⟩ fun σ => ?_
      refine gcond (b := _) rfl (fun hc16 => ?_) (fun hc16 => ?_)
      · 
        replace hc16 := of_decide_eq_true hc16
        refine gseq fun N9 hN9 => ?_
        refine greg ?_
        refine gop (y_move (v := .int _ _) rfl) rfl rfl rfl ?_
        refine gop (y_assign (v := .int _ _) rfl) rfl rfl rfl ?_
        refine gops_nil ?_
        refine hN9 _ _ ?_
        refine gfrom [(4, .int _ _)] ⟨rfl, trivial⟩ fun σ => ?_
        refine gret fun w1 hM => ?_
        refine ⟨_, res1 rfl (rt (v := .int _ _) rfl), ?_⟩
        exact ⟨by rw [idxP_hit (p := fun y => decide (x = y)) hk1 hz (decide_eq_true hc16)], hM.low⟩
      · 
        replace hc16 := of_decide_eq_false hc16
        refine gskip ?_
        refine hN6 _ _ ?_
        refine gfrom [(0, .slice _ _ _), (1, .int _ _), (7, .int _ _), (8, .int _ _)] ⟨rfl, rfl, rfl, rfl, trivial⟩ fun σ => ?_
        refine greg ?_
        refine gop (y_add rfl rfl ⟨by omega, by omega⟩) rfl rfl rfl ?_
        refine gop (y_move (v := .int _ _) rfl) rfl rfl rfl ?_
        refine gops_nil ?_
        refine gnext2 (k + 1) (by omega) (⟨by omega, fun j h hj => by rcases Nat.lt_succ_iff_lt_or_eq.1 hj with h1 | rfl; exact hz j h h1; exact decide_eq_false hc16⟩) ⟨rfl, trivial⟩ ⟨rfl, rfl, rfl, trivial⟩ ⟨_, rfl⟩
    · 
      replace hc9 := of_decide_eq_false hc9
      have hI := idxP_none (p := fun y => decide (x = y)) (l := l) (fun j hj => hz j hj (by omega))
      refine gexit ?_
      refine hN2 _ _ ?_
      refine gfrom [] trivial fun σ => ?_
      refine gseq fun N10 hN10 => ?_
      refine greg ?_
      refine gop (y_assign (v := .int _ _) rfl) rfl rfl rfl ?_
      refine gops_nil ?_
      refine hN10 _ _ ?_
      refine gfrom [(4, .int _ _)] ⟨rfl, trivial⟩ fun σ => ?_
      refine gret fun w1 hM => ?_
      refine ⟨_, res1 rfl (rt (v := .int _ _) rfl), ?_⟩
      exact ⟨by rw [hI], hM.low⟩
set_option maxHeartbeats 1000000 in
theorem containsI_any (w : World) (A : Option Addr) (c : Nat) (l : List Int) (hl : Rdl w 0 1 intCells A l) (hn : l.length ≤ maxLen) (x : Int) : Calls Tryd.prog 20 #[.slice A l.length c, .int .i64 x] w fun e w' => e = .returned (.bool (hasI l x)) ∧ Below w.heap.size w w' := by
  refine gcalls Tryd.func20 rfl Tryd.ntmps20 (Nat.le_of_ble_eq_true rfl) ?_
  refine gfrom [(0, .slice _ _ _), (1, .int _ _)] ⟨rfl, rfl, trivial⟩ fun σ => ?_
  refine gseq fun N1 hN1 => ?_
  refine greg ?_
  refine gop (y_assign (v := .bool _) rfl) rfl rfl rfl ?_
  refine gops_nil ?_
  refine hN1 _ _ ?_
  refine gfrom [(0, .slice _ _ _), (1, .int _ _)] ⟨rfl, rfl, trivial⟩ fun σ => ?_
  refine gseq fun N2 hN2 => ?_
  refine greg ?_
  refine gop (y_move (v := .slice _ _ _) rfl) rfl rfl rfl ?_
  refine gop (y_move (v := .int _ _) rfl) rfl rfl rfl ?_
  refine gop_pure (e_call (vs := [.slice _ _ _, .int _ _]) Tryd.func25 rfl (by kernel_rfl) rfl) (fun w hM => indexI_any w A c l (hl.base hM) hn x) rfl rfl rfl ?_
  refine gop (y_geq rfl rfl) rfl rfl rfl ?_
  refine gop (y_assign (v := .bool _) rfl) rfl rfl rfl ?_
  refine gops_nil ?_
  refine hN2 _ _ ?_
  refine gfrom [(4, .bool _)] ⟨rfl, trivial⟩ fun σ => ?_
  refine gret fun w1 hM => ?_
  refine ⟨_, res1 rfl (rt (v := .bool _) rfl), ?_⟩
  exact ⟨by rw [idxP_any]; rfl, hM.low⟩
set_option maxHeartbeats 1000000 in
theorem undone_any (w : World) (n bp g m cm : Nat) (b : Bool) (hp : w.cell? ⟨bp, 0, none⟩ = some (.slice (some ⟨g, 0, none⟩) m cm)) (hn : n < m) (hb : w.cell? ((⟨g, 0, none⟩ : Addr).add (n * 1 + 0)) = some (.bool b)) : Calls Tryd.prog 12 #[.int .i64 (n : Int), .pointer (some ⟨bp, 0, none⟩)] w fun e w' => e = .returned (.bool (!b)) ∧ Below w.heap.size w w' := by
  refine gcalls Tryd.func12 rfl Tryd.ntmps12 (Nat.le_of_ble_eq_true rfl) ?_
  refine gfrom [(0, .int _ _), (1, .pointer (some ⟨bp, 0, none⟩))] ⟨rfl, rfl, trivial⟩ fun σ => ?_
  refine gseq fun N1 hN1 => ?_
  refine greg ?_
  refine gop (y_assign (v := .bool _) rfl) rfl rfl rfl ?_
  refine gops_nil ?_
  refine hN1 _ _ ?_
  refine gfrom [(0, .int _ _), (1, .pointer (some ⟨bp, 0, none⟩))] ⟨rfl, rfl, trivial⟩ fun σ => ?_
  refine gseq fun N2 hN2 => ?_
  refine greg ?_
  refine gop (y_load (v := .slice (some ⟨g, 0, none⟩) m cm) Tryd.isAgg42 rfl (cell_base hp)) rfl rfl rfl ?_
  refine gop (y_move (v := .int _ _) rfl) rfl rfl rfl ?_
  refine gop (y_indexAddr (m := n) Tryd.underlying42 Tryd.sizeOf4 rfl rfl (by omega) (by omega) (by omega)) rfl rfl rfl ?_
  refine gop (y_load Tryd.isAgg4 rfl (cell_base hb)) rfl rfl rfl ?_
  refine gop (y_not rfl) rfl rfl rfl ?_
  refine gop (y_assign (v := .bool _) rfl) rfl rfl rfl ?_
  refine gops_nil ?_
  refine hN2 _ _ ?_
  refine gfrom [(3, .bool _)] ⟨rfl, trivial⟩ fun σ => ?_
  refine gret fun w1 hM => ?_
  refine ⟨_, res1 rfl (rt (v := .bool _) rfl), ?_⟩
  exact ⟨rfl, hM.low⟩
end Go.Proofs.YtlmhppnbcbadbaaDoor
namespace Go.Proofs.YtlmhppnbcbadbaaDoor
open Go.RowKit Go.Cf
set_option maxRecDepth 10000
theorem el3 : Elem Tryd.prog 3 1 8 := elem_of (z := .int .i64 0) (by kernel_rfl) rfl (by decide)
set_option maxHeartbeats 8000000 in
theorem dgOrder_any (w : World) (A : Option Addr) (c : Nat) (d : List LC) (hd : DepsR w 0 A d) (hlc : d.length ≤ c) (hcm : c ≤ maxLen) (hD : Down (ll d)) :
    Calls Tryd.prog 5 #[.slice A d.length c] w fun e w' => ∃ v T', e = .returned (.tuple #[v, fv ⟨0, 0⟩]) ∧ T' = [rowl intCells w.heap.size 3 1 (v) (rangeI d.length)] ∧ Mem w T' w' := by
  have hmx : maxLen = 9223372036854775807 := rfl
  have hlen : d.length ≤ 24 := by have h9 := hD.len; simpa using h9
  refine gcalls Tryd.func5 rfl Tryd.ntmps5 (Nat.le_of_ble_eq_true rfl) ?_
  refine gfrom [(0, .slice _ _ _)] ⟨rfl, trivial⟩ fun σ => ?_
  refine gseq fun N1 hN1 => ?_
  refine greg ?_
  refine gop (y_assign (v := .slice _ _ _) rfl) rfl rfl rfl ?_
  refine gop_alloc (cs := #[.int .i64 0, .int .i64 0]) Tryd.zeroValue25 rfl rfl (fun b3 hb3 => ?_)
  refine gops_nil ?_
  refine hN1 _ _ ?_
  refine gT [box b3 _] rfl ?_
  refine gfrom [(0, .slice _ _ _), (3, .pointer _)] ⟨rfl, rfl, trivial⟩ fun σ => ?_
  refine gseq fun N2 hN2 => ?_
  refine gseq fun N3 hN3 => ?_
  refine greg ?_
  refine gop (y_move (v := .slice _ _ _) rfl) rfl rfl rfl ?_
  refine gop_pure (e_call (vs := [.slice _ _ _]) Tryd.func10 rfl (by kernel_rfl) rfl) (fun w hM => dgCheckOrder_any w A c d (hd.base hM) hlc hcm hD) rfl rfl rfl ?_
  refine gop_alloc (cs := #[.int .i64 0, .int .i64 0]) Tryd.zeroValue25 rfl rfl (fun b4 hb4 => ?_)
  refine gop_store 1 (v := .agg #[_, _]) (cs' := #[_, _]) rfl rfl Tryd.sizeOf25 rfl rfl rfl rfl (Nat.le_of_ble_eq_true rfl) rfl rfl ?_
  refine gops_nil ?_
  refine hN3 _ _ ?_
  refine gT [box b3 _, box b4 _] rfl ?_
  refine gfrom [(0, .slice _ _ _), (3, .pointer _), (4, .pointer _)] ⟨rfl, rfl, rfl, trivial⟩ fun σ => ?_
  refine gseq fun N4 hN4 => ?_
  refine greg ?_
  refine gop (y_loads (cs := [_, _]) Tryd.isAgg25 Tryd.sizeOf25 rfl rfl (cells_box 1 rfl)) rfl rfl rfl ?_
  refine gop (y_build (vs := []) (cells := #[.int .i64 0, .int .i64 0]) rfl bd25_) rfl rfl rfl ?_
  refine gop (y_bin (vx := .agg #[_, _]) (vy := .agg #[_, _]) rfl rfl (fun w => eg25 _ _ _ _ _ w) (fun w => ne25 _ _ _ _ w)) rfl rfl rfl ?_
  refine gops_nil ?_
  refine hN4 _ _ ?_
  refine gfrom [(0, .slice _ _ _), (3, .pointer _), (4, .pointer _), (14, .bool _)] ⟨rfl, rfl, rfl, rfl, trivial⟩ fun σ => ?_
  refine gcond (b := _) rfl (fun hc14 => ?_) (fun hc14 => ?_)
  · 
     exact absurd hc14 (by simp)
  · 
    refine gskip ?_
    refine hN2 _ _ ?_
    refine gfrom [(0, .slice _ _ _), (3, .pointer _)] ⟨rfl, rfl, trivial⟩ fun σ => ?_
    refine gseq fun N5 hN5 => ?_
    refine greg ?_
    refine gop (y_move (v := .slice _ _ _) rfl) rfl rfl rfl ?_
    refine gop (y_len Tryd.underlying33 rfl) rfl rfl rfl ?_
    refine gop_make (f := boolCells) (bytes := 1) (z := .bool false) (false) Tryd.underlying42 (by kernel_rfl) rfl rfl rfl (k := d.length) rfl rfl (by omega) (by simp [maxLen]; omega) rfl (fun b18 hb18 => ?_)
    refine gop_alloc (cs := #[.slice none 0 0]) Tryd.zeroValue42 rfl rfl (fun b5 hb5 => ?_)
    refine gop_store 3 (v := .slice (some _) _ _) (cs' := #[_]) rfl rfl Tryd.sizeOf42 rfl rfl rfl rfl (Nat.le_of_ble_eq_true rfl) rfl rfl ?_
    refine gops_nil ?_
    refine hN5 _ _ ?_
    refine gT [box b3 _, box b4 _, rowl _ _ _ _ _ _, box b5 _] rfl ?_
    refine gfrom [(0, .slice _ _ _), (3, .pointer _), (5, .pointer _)] ⟨rfl, rfl, rfl, trivial⟩ fun σ => ?_
    refine gseq fun N6 hN6 => ?_
    refine greg ?_
    refine gop (y_assign (v := .slice _ _ _) rfl) rfl rfl rfl ?_
    refine gops_nil ?_
    refine hN6 _ _ ?_
    refine gfrom [(0, .slice _ _ _), (3, .pointer _), (5, .pointer _), (6, .slice _ _ _)] ⟨rfl, rfl, rfl, rfl, trivial⟩ fun σ => ?_
    refine gseq fun N7 hN7 => ?_
    refine gseq fun N8 hN8 => ?_
    refine greg ?_
    refine gop (y_move (v := .slice _ _ _) rfl) rfl rfl rfl ?_
    refine gop (y_len Tryd.underlying33 rfl) rfl rfl rfl ?_
    refine gop (y_move (v := .int _ _) rfl) rfl rfl rfl ?_
    refine gops_nil ?_
    refine hN8 _ _ ?_
    refine gfrom [(0, .slice _ _ _), (3, .pointer _), (5, .pointer _), (6, .slice _ _ _), (20, .int _ _), (21, .int _ _)] ⟨rfl, rfl, rfl, rfl, rfl, rfl, trivial⟩ fun σ => ?_
    refine gblock ?_
    refine gnilrow intCells 3 1 ?_
    rw [doneL_zero]
    refine gfrom2 [(6, .slice _ _ _), (21, .int _ _)] [(0, .slice _ _ _), (3, .pointer _), (5, .pointer _), (20, .int _ _)] ⟨rfl, rfl, trivial⟩ ⟨rfl, rfl, rfl, rfl, trivial⟩ fun σ => ?_
    refine gloop2 (G := Nat × Option Addr × Nat) (fun (m, Av, cv) => m ≤ d.length) (fun (m, Av, cv) => d.length - m) (fun (m, Av, cv) => [(6, .slice Av (rangeI m).length cv), (21, .int .i64 (m : Int))]) (fun (m, Av, cv) => [(2, rowl boolCells w.heap.size 4 1 (.slice (some ⟨b18, 0, none⟩) d.length d.length) (doneL d.length m)), (4, rowl intCells w.heap.size 3 1 (.slice Av (rangeI m).length cv) (rangeI m))]) ((0, none, 0)) ?h0 ⟨rfl, rfl, trivial⟩ ⟨rfl, rfl, rfl, rfl, trivial⟩ rfl ?round
    case h0 => exact Nat.zero_le _
    case round =>
      rintro ⟨m, Av, cv⟩ hφ σ
      have hm : m ≤ d.length := hφ
      refine gT [box b3 _, box b4 _, rowl _ _ _ _ _ _, box b5 _, rowl _ _ _ _ _ _] rfl ?_
      refine gseq fun N9 hN9 => ?_
      refine greg ?_
      refine gop (y_lss rfl rfl) rfl rfl rfl ?_
      refine gops_nil ?_
      refine hN9 _ _ ?_
      refine gfrom [(0, .slice _ _ _), (3, .pointer _), (5, .pointer _), (6, .slice Av _ cv), (20, .int _ _), (21, .int _ _), (22, .bool _)] ⟨rfl, rfl, rfl, rfl, rfl, rfl, rfl, trivial⟩ fun σ => ?_
      refine gseq fun N10 hN10 => ?_
      refine gcond (b := _) rfl (fun hc22 => ?_) (fun hc22 => ?_)
      · 
        replace hc22 := of_decide_eq_true hc22
        have hm1 : m < d.length := by omega
        refine gskip ?_
        refine hN10 _ _ ?_
        refine gfrom [(0, .slice _ _ _), (3, .pointer _), (5, .pointer _), (6, .slice Av _ cv), (20, .int _ _), (21, .int _ _)] ⟨rfl, rfl, rfl, rfl, rfl, rfl, trivial⟩ fun σ => ?_
        refine gseq fun N11 hN11 => ?_
        refine gblock ?_
        refine gseq fun N12 hN12 => ?_
        refine greg ?_
        refine gop (y_assign (v := .int _ _) rfl) rfl rfl rfl ?_
        refine gops_nil ?_
        refine hN12 _ _ ?_
        refine gfrom [(0, .slice _ _ _), (3, .pointer _), (5, .pointer _), (6, .slice Av _ cv), (7, .int _ _), (20, .int _ _), (21, .int _ _)] ⟨rfl, rfl, rfl, rfl, rfl, rfl, rfl, trivial⟩ fun σ => ?_
        refine gseq fun N13 hN13 => ?_
        refine gseq fun N14 hN14 => ?_
        refine greg ?_
        refine gop (y_move (v := .slice _ _ _) rfl) rfl rfl rfl ?_
        refine gop (y_len Tryd.underlying33 rfl) rfl rfl rfl ?_
        refine gop (y_move (v := .int _ _) rfl) rfl rfl rfl ?_
        refine gops_nil ?_
        refine hN14 _ _ ?_
        refine gfrom [(0, .slice _ _ _), (3, .pointer _), (5, .pointer _), (6, .slice Av _ cv), (7, .int _ _), (20, .int _ _), (21, .int _ _), (23, .slice _ _ _), (24, .int _ _), (25, .int _ _)] ⟨rfl, rfl, rfl, rfl, rfl, rfl, rfl, rfl, rfl, rfl, trivial⟩ fun σ => ?_
        refine gblock ?_
        refine gfrom2 [(7, .int _ _), (25, .int _ _)] [(0, .slice _ _ _), (3, .pointer _), (5, .pointer _), (6, .slice Av _ cv), (20, .int _ _), (21, .int _ _), (23, .slice _ _ _), (24, .int _ _)] ⟨rfl, rfl, trivial⟩ ⟨rfl, rfl, rfl, rfl, rfl, rfl, rfl, rfl, trivial⟩ fun σ => ?_
        refine gloop2 (G := Nat) (fun k => k ≤ d.length) (fun k => d.length - k) (fun k => [(7, .int .i64 (if k ≤ m then -1 else (m : Int))), (25, .int .i64 (k : Int))]) (fun k => []) (0) ?h0 ⟨(congrArg (Value.int .i64) (if_pos (Nat.zero_le m)).symm), rfl, trivial⟩ ⟨rfl, rfl, rfl, rfl, rfl, rfl, rfl, rfl, trivial⟩ rfl ?round
        case h0 => exact Nat.zero_le _
        case round =>
          intro k hφ σ
          have hk : k ≤ d.length := hφ
          refine gseq fun N15 hN15 => ?_
          refine greg ?_
          refine gop (y_lss rfl rfl) rfl rfl rfl ?_
          refine gops_nil ?_
          refine hN15 _ _ ?_
          refine gfrom [(0, .slice _ _ _), (3, .pointer _), (5, .pointer _), (6, .slice Av _ cv), (7, .int _ _), (20, .int _ _), (21, .int _ _), (23, .slice _ _ _), (24, .int _ _), (25, .int _ _), (26, .bool _)] ⟨rfl, rfl, rfl, rfl, rfl, rfl, rfl, rfl, rfl, rfl, rfl, trivial⟩ fun σ => ?_
          refine gseq fun N16 hN16 => ?_
          refine gcond (b := _) rfl (fun hc26 => ?_) (fun hc26 => ?_)
          · 
            replace hc26 := of_decide_eq_true hc26
            have hk1 : k < d.length := by omega
            obtain ⟨ad, rfl, -, hca⟩ := hd.rd.at_ hk1
            obtain ⟨hR⟩ := hd.each _ (List.getElem_mem hk1)
            obtain ⟨hlt, hinc⟩ := down_at hD hk1
            have hdl : d[k].l.length ≤ 24 := by
              rcases inc_len hinc (b := (k : Int)) hlt with h9 | h9
              · omega
              · rw [h9]; exact Nat.zero_le _
            refine gskip ?_
            refine hN16 _ _ ?_
            refine gfrom [(0, .slice _ _ _), (3, .pointer _), (5, .pointer _), (6, .slice Av _ cv), (7, .int _ _), (20, .int _ _), (21, .int _ _), (23, .slice _ _ _), (24, .int _ _), (25, .int _ _)] ⟨rfl, rfl, rfl, rfl, rfl, rfl, rfl, rfl, rfl, rfl, trivial⟩ fun σ => ?_
            refine gseq fun N17 hN17 => ?_
            refine gblock ?_
            refine gseq fun N18 hN18 => ?_
            refine greg ?_
            refine gop (y_move (v := .int _ _) rfl) rfl rfl rfl ?_
            refine gop (y_indexAddr (m := k) Tryd.underlying33 Tryd.sizeOf28 rfl rfl (by omega) (by omega) (by omega)) rfl rfl rfl ?_
            refine gop (y_load Tryd.isAgg28 rfl (cell_base (hca 0 _ rfl))) rfl rfl rfl ?_
            refine gop (y_assign (v := .int _ _) rfl) rfl rfl rfl ?_
            refine gop (y_assign (v := .slice _ _ _) rfl) rfl rfl rfl ?_
            refine gops_nil ?_
            refine hN18 _ _ ?_
            refine gfrom [(0, .slice _ _ _), (3, .pointer _), (5, .pointer _), (6, .slice Av _ cv), (7, .int _ _), (8, .int _ _), (9, .slice _ _ _), (20, .int _ _), (21, .int _ _), (23, .slice _ _ _), (24, .int _ _), (25, .int _ _)] ⟨rfl, rfl, rfl, rfl, rfl, rfl, rfl, rfl, rfl, rfl, rfl, rfl, trivial⟩ fun σ => ?_
            refine gseq fun N19 hN19 => ?_
            refine greg ?_
            refine gop (y_move (v := .int _ _) rfl) rfl rfl rfl ?_
            refine gop (y_lss rfl rfl) rfl rfl rfl ?_
            refine gop (y_move (v := .bool _) rfl) rfl rfl rfl ?_
            refine gop_if (want := true) rfl rfl rfl rfl rfl rfl (fun hg32 => ?_) (fun hg32 => ?_)
            · 
              have hg32d := of_decide_eq_true hg32
              have hkm : k ≤ m := by
                apply Classical.byContradiction
                intro h9
                rw [if_neg h9] at hg32d
                omega
              refine gop (y_bare (y_load Tryd.isAgg42 rfl (cell_box 3 rfl rfl))) rfl rfl rfl ?_
              refine gop_on rfl rfl rfl rfl hg32 ?_
              refine gop (y_bare (y_move (v := .int _ _) rfl)) rfl rfl rfl ?_
              refine gop_on rfl rfl rfl rfl hg32 ?_
              refine gop (y_bare (y_indexAddr (m := k) Tryd.underlying42 Tryd.sizeOf4 rfl rfl (by omega) (by omega) (by omega))) rfl rfl rfl ?_
              refine gop_on rfl rfl rfl rfl hg32 ?_
              refine gop (y_bare (y_load Tryd.isAgg4 rfl (cells_rowl 2 (f := boolCells) (l := doneL d.length m) rfl (doneL_len (by omega)).symm (fun _ => rfl) (doneL_get (by omega) hk1) 0 _ rfl))) rfl rfl rfl ?_
              refine gop_on rfl rfl rfl rfl hg32 ?_
              refine gop (y_bare (y_not rfl)) rfl rfl rfl ?_
              refine gop (y_pick_t (v := .bool _) rfl hg32 rfl) rfl rfl rfl ?_
              refine gop (y_move (v := .bool _) rfl) rfl rfl rfl ?_
              refine gop_if (want := true) rfl rfl rfl rfl rfl rfl (fun hg39 => ?_) (fun hg39 => ?_)
              · 
                have hg39d := not_t hg39
                have hke : k = m := by have h9 := of_decide_eq_false hg39d; omega
                have hany := any_lt (m := m) hlt (by omega)
                refine gop (y_bare (y_move (v := .slice _ _ _) rfl)) rfl rfl rfl ?_
                refine gop_on rfl rfl rfl rfl hg39 ?_
                refine gop (y_bare (y_makeFunc (vs := [.pointer (some ⟨b5, 0, none⟩)]) rfl)) rfl rfl rfl ?_
                refine gop_on rfl rfl rfl rfl hg39 ?_
                refine gop_pure (e_call (vs := [.slice _ _ _, .func (.func 12) #[] #[.pointer (some ⟨b5, 0, none⟩)]]) Tryd.func11 rfl (by kernel_rfl) rfl) (fun w hM => by have h1 : ∀ k' (h : k' < d[k].l.length) w1, Below w.heap.size w w1 → Calls Tryd.prog 12 (([.int .i64 d[k].l[k']] : List Value) ++ [Value.pointer (some ⟨b5, 0, none⟩)]).toArray w1 (fun e w2 => e = .returned (.bool (!decide (d[k].l[k'] < (m : Int)))) ∧ Below w1.heap.size w1 w2) := (fun k' hk' w1 hb1 => by have hz := hlt _ (List.getElem_mem hk'); have hM1 := hM.call hb1; obtain ⟨z, hzz⟩ := Int.eq_ofNat_of_zero_le hz.1; rw [hzz] at hz ⊢; have hc := undone_any w1 z b5 b18 d.length d.length (decide (z < m)) (cell_box 3 rfl rfl w1 hM1) (by omega) (cells_rowl 2 (f := boolCells) (l := doneL d.length m) rfl (doneL_len (by omega)).symm (fun _ => rfl) (doneL_get (by omega) (by omega)) 0 _ rfl w1 hM1); rw [show decide (z < m) = decide ((z : Int) < (m : Int)) from decide_eq_decide.2 (by omega)] at hc; exact hc); have hc := contFuncI_any w _ d[k].c d[k].l (hR.base hM) (by omega) 12 _ Tryd.func12 (by kernel_rfl) (by kernel_rfl) [Value.pointer (some ⟨b5, 0, none⟩)] (fun z => !decide (z < (m : Int))) h1; rw [hany] at hc; exact hc) rfl rfl rfl ?_
                refine gop_on rfl rfl rfl rfl hg39 ?_
                refine gop (y_bare (y_not rfl)) rfl rfl rfl ?_
                refine gop (y_pick_t (v := .bool _) rfl hg39 rfl) rfl rfl rfl ?_
                refine gops_nil ?_
                refine hN19 _ _ ?_
                refine gfrom [(0, .slice _ _ _), (3, .pointer _), (5, .pointer _), (6, .slice Av _ cv), (7, .int _ _), (8, .int _ _), (20, .int _ _), (21, .int _ _), (23, .slice _ _ _), (24, .int _ _), (25, .int _ _), (44, .bool _)] ⟨rfl, rfl, rfl, rfl, rfl, rfl, rfl, rfl, rfl, rfl, rfl, rfl, trivial⟩ fun σ => ?_
                refine gcond (b := _) rfl (fun hc44 => ?_) (fun hc44 => ?_)
                · 
                  replace hc44 := not_t hc44
                  refine greg ?_
                  refine gop (y_move (v := .int _ _) rfl) rfl rfl rfl ?_
                  refine gop (y_assign (v := .int _ _) rfl) rfl rfl rfl ?_
                  refine gops_nil ?_
                  refine hN17 _ _ ?_
                  refine gfrom [(0, .slice _ _ _), (3, .pointer _), (5, .pointer _), (6, .slice Av _ cv), (7, .int _ _), (20, .int _ _), (21, .int _ _), (23, .slice _ _ _), (24, .int _ _), (25, .int _ _)] ⟨rfl, rfl, rfl, rfl, rfl, rfl, rfl, rfl, rfl, rfl, trivial⟩ fun σ => ?_
                  refine greg ?_
                  refine gop (y_add rfl rfl ⟨by omega, by omega⟩) rfl rfl rfl ?_
                  refine gop (y_move (v := .int _ _) rfl) rfl rfl rfl ?_
                  refine gops_nil ?_
                  refine gnext2 (k + 1) (by omega) (show k + 1 ≤ _ by omega) ⟨congrArg (Value.int .i64) (by (repeat' split) <;> omega), rfl, trivial⟩ ⟨rfl, rfl, rfl, rfl, rfl, rfl, rfl, rfl, trivial⟩ ⟨_, rfl⟩
                · 
                  replace hc44 := not_f hc44
                  cases hc44
              · 
                have hg39d := not_f hg39
                have hke : k < m := of_decide_eq_true hg39d
                refine gop_off rfl rfl rfl rfl hg39 rfl rfl ?_
                refine gop_off rfl rfl rfl rfl hg39 rfl rfl ?_
                refine gop_off rfl rfl rfl rfl hg39 rfl rfl ?_
                refine gop (y_pick_f (v := .bool _) rfl hg39 rfl) rfl rfl rfl ?_
                refine gops_nil ?_
                refine hN19 _ _ ?_
                refine gfrom [(0, .slice _ _ _), (3, .pointer _), (5, .pointer _), (6, .slice Av _ cv), (7, .int _ _), (8, .int _ _), (20, .int _ _), (21, .int _ _), (23, .slice _ _ _), (24, .int _ _), (25, .int _ _), (44, .bool _)] ⟨rfl, rfl, rfl, rfl, rfl, rfl, rfl, rfl, rfl, rfl, rfl, rfl, trivial⟩ fun σ => ?_
                refine gcond (b := _) rfl (fun hc44 => ?_) (fun hc44 => ?_)
                · 
                  cases hc44
                · 
                  refine gskip ?_
                  refine hN17 _ _ ?_
                  refine gfrom [(0, .slice _ _ _), (3, .pointer _), (5, .pointer _), (6, .slice Av _ cv), (7, .int _ _), (20, .int _ _), (21, .int _ _), (23, .slice _ _ _), (24, .int _ _), (25, .int _ _)] ⟨rfl, rfl, rfl, rfl, rfl, rfl, rfl, rfl, rfl, rfl, trivial⟩ fun σ => ?_
                  refine greg ?_
                  refine gop (y_add rfl rfl ⟨by omega, by omega⟩) rfl rfl rfl ?_
                  refine gop (y_move (v := .int _ _) rfl) rfl rfl rfl ?_
                  refine gops_nil ?_
                  refine gnext2 (k + 1) (by omega) (show k + 1 ≤ _ by omega) ⟨congrArg (Value.int .i64) (by (repeat' split) <;> omega), rfl, trivial⟩ ⟨rfl, rfl, rfl, rfl, rfl, rfl, rfl, rfl, trivial⟩ ⟨_, rfl⟩
            · 
              have hg32d := of_decide_eq_false hg32
              have hkm : ¬ k ≤ m := by
                intro h9
                rw [if_pos h9] at hg32d
                omega
              refine gop_off rfl rfl rfl rfl hg32 rfl rfl ?_
              refine gop_off rfl rfl rfl rfl hg32 rfl rfl ?_
              refine gop_off rfl rfl rfl rfl hg32 rfl rfl ?_
              refine gop_off rfl rfl rfl rfl hg32 rfl rfl ?_
              refine gop (y_pick_f (v := .bool _) rfl hg32 rfl) rfl rfl rfl ?_
              refine gop (y_move (v := .bool _) rfl) rfl rfl rfl ?_
              refine gop_off rfl rfl rfl rfl rfl rfl rfl ?_
              refine gop_off rfl rfl rfl rfl rfl rfl rfl ?_
              refine gop_off rfl rfl rfl rfl rfl rfl rfl ?_
              refine gop_off rfl rfl rfl rfl rfl rfl rfl ?_
              refine gop (y_pick_f (v := .bool _) rfl rfl rfl) rfl rfl rfl ?_
              refine gops_nil ?_
              refine hN19 _ _ ?_
              refine gfrom [(0, .slice _ _ _), (3, .pointer _), (5, .pointer _), (6, .slice Av _ cv), (7, .int _ _), (8, .int _ _), (20, .int _ _), (21, .int _ _), (23, .slice _ _ _), (24, .int _ _), (25, .int _ _), (44, .bool _)] ⟨rfl, rfl, rfl, rfl, rfl, rfl, rfl, rfl, rfl, rfl, rfl, rfl, trivial⟩ fun σ => ?_
              refine gcond (b := _) rfl (fun hc44 => ?_) (fun hc44 => ?_)
              · 
                cases hc44
              · 
                refine gskip ?_
                refine hN17 _ _ ?_
                refine gfrom [(0, .slice _ _ _), (3, .pointer _), (5, .pointer _), (6, .slice Av _ cv), (7, .int _ _), (20, .int _ _), (21, .int _ _), (23, .slice _ _ _), (24, .int _ _), (25, .int _ _)] ⟨rfl, rfl, rfl, rfl, rfl, rfl, rfl, rfl, rfl, rfl, trivial⟩ fun σ => ?_
                refine greg ?_
                refine gop (y_add rfl rfl ⟨by omega, by omega⟩) rfl rfl rfl ?_
                refine gop (y_move (v := .int _ _) rfl) rfl rfl rfl ?_
                refine gops_nil ?_
                refine gnext2 (k + 1) (by omega) (show k + 1 ≤ _ by omega) ⟨congrArg (Value.int .i64) (by (repeat' split) <;> omega), rfl, trivial⟩ ⟨rfl, rfl, rfl, rfl, rfl, rfl, rfl, rfl, trivial⟩ ⟨_, rfl⟩
          · 
            replace hc26 := of_decide_eq_false hc26
            rw [if_neg (show ¬ k ≤ m by omega)]
            refine gexit ?_
            refine hN13 _ _ ?_
            refine gfrom [(0, .slice _ _ _), (3, .pointer _), (5, .pointer _), (6, .slice Av _ cv), (7, .int _ _), (20, .int _ _), (21, .int _ _)] ⟨rfl, rfl, rfl, rfl, rfl, rfl, rfl, trivial⟩ fun σ => ?_
            refine gseq fun N20 hN20 => ?_
            refine greg ?_
            refine gop (y_load Tryd.isAgg42 rfl (cell_box 3 rfl rfl)) rfl rfl rfl ?_
            refine gop (y_move (v := .int _ _) rfl) rfl rfl rfl ?_
            refine gop (y_indexAddr (m := m) Tryd.underlying42 Tryd.sizeOf4 rfl rfl (by omega) (by omega) (by omega)) rfl rfl rfl ?_
            refine gop_store_row 2 (f := boolCells) (l := doneL d.length m) (k := m) (o := 0) (v := .bool _) (a := false) (a' := true) (fun _ => rfl) rfl rfl rfl Tryd.sizeOf4 rfl rfl rfl rfl (doneL_len (by omega)).symm (by rw [doneL_get (by omega) hm1, decide_eq_false (by omega)]) (Nat.le_of_ble_eq_true rfl) rfl rfl ?_
            refine gops_nil ?_
            refine hN20 _ _ ?_
            refine gT [box b3 _, box b4 _, rowl _ _ _ _ _ _, box b5 _, rowl _ _ _ _ _ _] rfl ?_
            refine gfrom [(0, .slice _ _ _), (3, .pointer _), (5, .pointer _), (6, .slice Av _ cv), (7, .int _ _), (20, .int _ _), (21, .int _ _)] ⟨rfl, rfl, rfl, rfl, rfl, rfl, rfl, trivial⟩ fun σ => ?_
            refine greg ?_
            refine gop (y_move (v := .slice Av _ cv) rfl) rfl rfl rfl ?_
            refine gop (y_move (v := .int _ _) rfl) rfl rfl rfl ?_
            refine gop_lit (vs := [.int _ _]) (cells := #[_]) Tryd.underlying28 Tryd.sizeOf3 Tryd.zeroValue3 rfl (by decide) (by decide) rfl rfl rfl rfl (fun b52 hb52 => ?_)
            refine gop_append 4 (f := intCells) (l2 := [(m : Int)]) Tryd.underlying28 el3 wide_int (v := .slice Av _ cv) rfl rfl rfl rfl (fun h => by cases h) (by simp [maxLen, rangeI_len]; omega) (by simp [rangeI_len]; omega) (src_box 5 rfl rfl) rfl (fun v53 => ?_)
            refine gops_fact (fun w hM => own_form (hM.own 4 rfl)) ?_
            rintro ⟨A53, c53, rfl, hc53, hm53⟩
            refine gop (y_assign (v := .slice A53 _ c53) rfl) rfl rfl rfl ?_
            refine gops_nil ?_
            refine hN11 _ _ ?_
            refine gT [box b3 _, box b4 _, rowl _ _ _ _ _ _, box b5 _, rowl _ _ _ _ _ _, box b52 _] rfl ?_
            refine gfrom [(0, .slice _ _ _), (3, .pointer _), (5, .pointer _), (6, .slice A53 _ c53), (20, .int _ _), (21, .int _ _)] ⟨rfl, rfl, rfl, rfl, rfl, rfl, trivial⟩ fun σ => ?_
            refine greg ?_
            refine gop (y_add rfl rfl ⟨by omega, by omega⟩) rfl rfl rfl ?_
            refine gop (y_move (v := .int _ _) rfl) rfl rfl rfl ?_
            refine gops_nil ?_
            rw [doneL_set hm1]
            refine gnext2 ((m + 1, A53, c53)) (by show d.length - (m + 1) < d.length - m; omega) (show m + 1 ≤ _ by omega) ⟨rfl, rfl, trivial⟩ ⟨rfl, rfl, rfl, rfl, trivial⟩ ⟨_, rfl⟩
      · 
        replace hc22 := of_decide_eq_false hc22
        refine gexit ?_
        refine hN7 _ _ ?_
        refine gfrom [(3, .pointer _), (6, .slice Av _ cv)] ⟨rfl, rfl, trivial⟩ fun σ => ?_
        refine gseq fun N21 hN21 => ?_
        refine greg ?_
        refine gop (y_move (v := .slice Av _ cv) rfl) rfl rfl rfl ?_
        refine gop (y_build (vs := []) (cells := #[.int .i64 0, .int .i64 0]) rfl bd25_) rfl rfl rfl ?_
        refine gop (y_assign (v := .slice Av _ cv) rfl) rfl rfl rfl ?_
        refine gop_store 0 (v := .agg #[_, _]) (cs' := #[_, _]) rfl rfl Tryd.sizeOf25 rfl rfl rfl rfl (Nat.le_of_ble_eq_true rfl) rfl rfl ?_
        refine gops_nil ?_
        refine hN21 _ _ ?_
        refine gT [box b3 _, box b4 _, rowl _ _ _ _ _ _, box b5 _, rowl _ _ _ _ _ _] rfl ?_
        refine gfrom [(2, .slice Av _ cv), (3, .pointer _)] ⟨rfl, rfl, trivial⟩ fun σ => ?_
        refine gret fun w1 hM => ?_
        refine ⟨_, res2 rfl (rt (v := .slice Av _ cv) rfl) (rc 0 (cs := [_, _]) hM rfl rfl Tryd.isAgg25 Tryd.sizeOf25 rfl), ?_⟩
        have he : m = d.length := by omega
        subst he
        exact ⟨_, _, rfl, rfl, hM.dropTo 4 rfl⟩
end Go.Proofs.YtlmhppnbcbadbaaDoor
namespace Go.Proofs.YtlmhppnbcbadbaaDoor
open Go.RowKit Go.Cf
set_option maxRecDepth 10000
set_option maxHeartbeats 8000000 in
theorem dgLevels_any (w : World) (A : Option Addr) (c : Nat) (d : List LC) (hd : DepsR w 0 A d) (hlc : d.length ≤ c) (hcm : c ≤ maxLen) (hD : Down (ll d)) :
    Calls Tryd.prog 7 #[.slice A d.length c] w fun e w' => ∃ v T', e = .returned (.tuple #[v, fv ⟨0, 0⟩]) ∧ T' = [rowl intCells w.heap.size 3 1 (v) (levTo (ll d) d.length)] ∧ Mem w T' w' := by
  have hmx : maxLen = 9223372036854775807 := rfl
  have hlen : d.length ≤ 24 := by have h9 := hD.len; simpa using h9
  have hrl := rangeI_len d.length
  refine gcalls Tryd.func7 rfl Tryd.ntmps7 (Nat.le_of_ble_eq_true rfl) ?_
  refine gfrom [(0, .slice _ _ _)] ⟨rfl, trivial⟩ fun σ => ?_
  refine gseq fun N1 hN1 => ?_
  refine greg ?_
  refine gop (y_assign (v := .slice _ _ _) rfl) rfl rfl rfl ?_
  refine gop_alloc (cs := #[.int .i64 0, .int .i64 0]) Tryd.zeroValue25 rfl rfl (fun b3 hb3 => ?_)
  refine gops_nil ?_
  refine hN1 _ _ ?_
  refine gT [box b3 _] rfl ?_
  refine gfrom [(0, .slice _ _ _), (3, .pointer _)] ⟨rfl, rfl, trivial⟩ fun σ => ?_
  refine gseq fun N2 hN2 => ?_
  refine greg ?_
  refine gop (y_move (v := .slice _ _ _) rfl) rfl rfl rfl ?_
  refine gop_got (fun v T' => ∃ lo u, v = .tuple #[u, fv ⟨0, 0⟩] ∧ w.heap.size ≤ lo ∧ T' = [rowl intCells lo 3 1 (u) (rangeI d.length)]) (e_call (vs := [.slice _ _ _]) Tryd.func5 rfl (by kernel_rfl) rfl) (fun w hM => (dgOrder_any w A c d (hd.base hM) hlc hcm hD).mono fun _ _ ⟨v, T1, h1, h2, h3⟩ => ⟨_, T1, h1, ⟨_, v, rfl, hM.low.size, h2⟩, h3⟩) rfl rfl rfl ?_
  rintro _ _ ⟨lo13, u13, rfl, hlo13, rfl⟩
  refine gops_fact (fun w hM => row_form (hM.ok _ (List.mem_of_getElem? (i := 1) rfl))) ?_
  rintro ⟨A13, c13, rfl, hc13, hm13, hn13⟩
  refine gops_fact (Φ := 0 < d.length → ∃ g, A13 = some ⟨g, 0, none⟩) (fun w hM h9 => row_g (hM.ok _ (List.mem_of_getElem? (i := 1) rfl)) (by omega)) ?_
  intro hg13
  refine gop (y_move (v := .tuple #[.slice A13 _ c13, .agg #[_, _]]) rfl) rfl rfl rfl ?_
  refine gop (y_extract (v := .slice A13 _ c13) rfl rfl) rfl rfl rfl ?_
  refine gop (y_extract (v := .agg #[_, _]) rfl rfl) rfl rfl rfl ?_
  refine gop_alloc (cs := #[.int .i64 0, .int .i64 0]) Tryd.zeroValue25 rfl rfl (fun b5 hb5 => ?_)
  refine gop (y_assign (v := .slice A13 _ c13) rfl) rfl rfl rfl ?_
  refine gop_store 2 (v := .agg #[_, _]) (cs' := #[_, _]) rfl rfl Tryd.sizeOf25 rfl rfl rfl rfl (Nat.le_of_ble_eq_true rfl) rfl rfl ?_
  refine gops_nil ?_
  refine hN2 _ _ ?_
  refine gT [box b3 _, rowl _ _ _ _ _ _, box b5 _] rfl ?_
  refine gfrom [(0, .slice _ _ _), (3, .pointer _), (4, .slice A13 _ c13), (5, .pointer _)] ⟨rfl, rfl, rfl, rfl, trivial⟩ fun σ => ?_
  refine gseq fun N3 hN3 => ?_
  refine gseq fun N4 hN4 => ?_
  refine greg ?_
  refine gop (y_loads (cs := [_, _]) Tryd.isAgg25 Tryd.sizeOf25 rfl rfl (cells_box 2 rfl)) rfl rfl rfl ?_
  refine gop (y_build (vs := []) (cells := #[.int .i64 0, .int .i64 0]) rfl bd25_) rfl rfl rfl ?_
  refine gop (y_bin (vx := .agg #[_, _]) (vy := .agg #[_, _]) rfl rfl (fun w => eg25 _ _ _ _ _ w) (fun w => ne25 _ _ _ _ w)) rfl rfl rfl ?_
  refine gops_nil ?_
  refine hN4 _ _ ?_
  refine gfrom [(0, .slice _ _ _), (3, .pointer _), (4, .slice A13 _ c13), (5, .pointer _), (18, .bool _)] ⟨rfl, rfl, rfl, rfl, rfl, trivial⟩ fun σ => ?_
  refine gcond (b := _) rfl (fun hc18 => ?_) (fun hc18 => ?_)
  · 
     exact absurd hc18 (by simp)
  · 
    refine gskip ?_
    refine hN3 _ _ ?_
    refine gfrom [(0, .slice _ _ _), (3, .pointer _), (4, .slice A13 _ c13)] ⟨rfl, rfl, rfl, trivial⟩ fun σ => ?_
    refine gseq fun N5 hN5 => ?_
    refine greg ?_
    refine gop (y_move (v := .slice _ _ _) rfl) rfl rfl rfl ?_
    refine gop (y_len Tryd.underlying33 rfl) rfl rfl rfl ?_
    refine gop_make (f := intCells) (bytes := 8) (z := .int .i64 0) ((0 : Int)) Tryd.underlying28 (by kernel_rfl) rfl rfl rfl (k := d.length) rfl rfl (by omega) (by simp [maxLen]; omega) rfl (fun b22 hb22 => ?_)
    refine gop (y_assign (v := .slice (some _) _ _) rfl) rfl rfl rfl ?_
    refine gops_nil ?_
    refine hN5 _ _ ?_
    refine gT [box b3 _, rowl _ _ _ _ _ _, box b5 _, rowl _ _ _ _ _ _] rfl ?_
    refine gfrom [(0, .slice _ _ _), (3, .pointer _), (4, .slice A13 _ c13), (6, .slice (some _) _ _)] ⟨rfl, rfl, rfl, rfl, trivial⟩ fun σ => ?_
    refine gseq fun N6 hN6 => ?_
    refine gseq fun N7 hN7 => ?_
    refine greg ?_
    refine gop (y_move (v := .slice _ _ _) rfl) rfl rfl rfl ?_
    refine gop (y_len Tryd.underlying28 rfl) rfl rfl rfl ?_
    refine gop (y_move (v := .int _ _) rfl) rfl rfl rfl ?_
    refine gops_nil ?_
    refine hN7 _ _ ?_
    refine gfrom [(0, .slice _ _ _), (3, .pointer _), (6, .slice (some _) _ _), (23, .slice _ _ _), (24, .int _ _), (25, .int _ _)] ⟨rfl, rfl, rfl, rfl, rfl, rfl, trivial⟩ fun σ => ?_
    refine gblock ?_
    rw [levZ_zero (ll d)]
    refine gfrom2 [(25, .int _ _)] [(0, .slice _ _ _), (3, .pointer _), (6, .slice (some _) _ _), (23, .slice _ _ _), (24, .int _ _)] ⟨rfl, trivial⟩ ⟨rfl, rfl, rfl, rfl, rfl, trivial⟩ fun σ => ?_
    refine gloop2 (G := Nat) (fun k => k ≤ d.length) (fun k => d.length - k) (fun k => [(25, .int .i64 (k : Int))]) (fun k => [(3, rowl intCells w.heap.size 3 1 (.slice (some ⟨b22, 0, none⟩) d.length d.length) (levZ (ll d) d.length k))]) (0) ?h0 ⟨rfl, trivial⟩ ⟨rfl, rfl, rfl, rfl, rfl, trivial⟩ rfl ?round
    case h0 => exact Nat.zero_le _
    case round =>
      intro k hφ σ
      have hk : k ≤ d.length := hφ
      refine gT [box b3 _, rowl _ _ _ _ _ _, box b5 _, rowl _ _ _ _ _ _] rfl ?_
      refine gseq fun N8 hN8 => ?_
      refine greg ?_
      refine gop (y_lss rfl rfl) rfl rfl rfl ?_
      refine gops_nil ?_
      refine hN8 _ _ ?_
      refine gfrom [(0, .slice _ _ _), (3, .pointer _), (6, .slice (some _) _ _), (23, .slice _ _ _), (24, .int _ _), (25, .int _ _), (26, .bool _)] ⟨rfl, rfl, rfl, rfl, rfl, rfl, rfl, trivial⟩ fun σ => ?_
      refine gseq fun N9 hN9 => ?_
      refine gcond (b := _) rfl (fun hc26 => ?_) (fun hc26 => ?_)
      · 
        replace hc26 := of_decide_eq_true hc26
        have hk1 : k < d.length := by omega
        obtain ⟨ad, rfl, -, hca⟩ := hd.rd.at_ hk1
        obtain ⟨hR⟩ := hd.each _ (List.getElem_mem hk1)
        obtain ⟨hlt, hinc⟩ := down_at hD hk1
        have hdl : d[k].l.length ≤ 24 := by
          rcases inc_len hinc (b := (k : Int)) hlt with h9 | h9
          · omega
          · rw [h9]; exact Nat.zero_le _
        obtain ⟨g13, rfl⟩ := hg13 (by omega)
        refine gskip ?_
        refine hN9 _ _ ?_
        refine gfrom [(0, .slice _ _ _), (3, .pointer _), (6, .slice (some _) _ _), (23, .slice _ _ _), (24, .int _ _), (25, .int _ _)] ⟨rfl, rfl, rfl, rfl, rfl, rfl, trivial⟩ fun σ => ?_
        refine gseq fun N10 hN10 => ?_
        refine gblock ?_
        refine gseq fun N11 hN11 => ?_
        refine greg ?_
        refine gop (y_indexAddr (m := k) Tryd.underlying28 Tryd.sizeOf3 rfl rfl (by omega) (by omega) (by omega)) rfl rfl rfl ?_
        refine gop (y_load Tryd.isAgg3 rfl (cells_rowl 1 (f := intCells) (l := rangeI d.length) rfl rfl (fun _ => rfl) (rangeI_get _ _ hk1) 0 _ rfl)) rfl rfl rfl ?_
        refine gop (y_assign (v := .int _ _) rfl) rfl rfl rfl ?_
        refine gops_nil ?_
        refine hN11 _ _ ?_
        refine gfrom [(0, .slice _ _ _), (3, .pointer _), (6, .slice (some _) _ _), (8, .int _ _), (23, .slice _ _ _), (24, .int _ _), (25, .int _ _)] ⟨rfl, rfl, rfl, rfl, rfl, rfl, rfl, trivial⟩ fun σ => ?_
        refine gseq fun N12 hN12 => ?_
        refine greg ?_
        refine gop (y_move (v := .slice _ _ _) rfl) rfl rfl rfl ?_
        refine gop (y_move (v := .int _ _) rfl) rfl rfl rfl ?_
        refine gop (y_indexAddr (m := k) Tryd.underlying33 Tryd.sizeOf28 rfl rfl (by omega) (by omega) (by omega)) rfl rfl rfl ?_
        refine gop (y_load Tryd.isAgg28 rfl (cell_base (hca 0 _ rfl))) rfl rfl rfl ?_
        refine gop (y_len Tryd.underlying28 rfl) rfl rfl rfl ?_
        refine gop (y_move (v := .int _ _) rfl) rfl rfl rfl ?_
        refine gops_nil ?_
        refine hN12 _ _ ?_
        refine gfrom [(0, .slice _ _ _), (3, .pointer _), (6, .slice (some _) _ _), (8, .int _ _), (23, .slice _ _ _), (24, .int _ _), (25, .int _ _), (32, .slice _ _ _), (33, .int _ _), (34, .int _ _)] ⟨rfl, rfl, rfl, rfl, rfl, rfl, rfl, rfl, rfl, rfl, trivial⟩ fun σ => ?_
        refine gblock ?_
        rw [levZ_open hk1]
        refine gfrom2 [(34, .int _ _)] [(0, .slice _ _ _), (3, .pointer _), (6, .slice (some _) _ _), (8, .int _ _), (23, .slice _ _ _), (24, .int _ _), (25, .int _ _), (32, .slice _ _ _), (33, .int _ _)] ⟨rfl, trivial⟩ ⟨rfl, rfl, rfl, rfl, rfl, rfl, rfl, rfl, rfl, trivial⟩ fun σ => ?_
        refine gloop2 (G := Nat) (fun j => j ≤ d[k].l.length) (fun j => d[k].l.length - j) (fun j => [(34, .int .i64 (j : Int))]) (fun j => [(3, rowl intCells w.heap.size 3 1 (.slice (some ⟨b22, 0, none⟩) d.length d.length) (levL (ll d) d.length k (levTo' d[k].l (levTo (ll d) k) j)))]) (0) ?h0 ⟨rfl, trivial⟩ ⟨rfl, rfl, rfl, rfl, rfl, rfl, rfl, rfl, rfl, trivial⟩ rfl ?round
        case h0 => exact Nat.zero_le _
        case round =>
          intro j hφ σ
          have hj : j ≤ d[k].l.length := hφ
          refine gT [box b3 _, rowl _ _ _ _ _ _, box b5 _, rowl _ _ _ _ _ _] rfl ?_
          refine gseq fun N13 hN13 => ?_
          refine greg ?_
          refine gop (y_lss rfl rfl) rfl rfl rfl ?_
          refine gops_nil ?_
          refine hN13 _ _ ?_
          refine gfrom [(0, .slice _ _ _), (3, .pointer _), (6, .slice (some _) _ _), (8, .int _ _), (23, .slice _ _ _), (24, .int _ _), (25, .int _ _), (32, .slice _ _ _), (33, .int _ _), (34, .int _ _), (35, .bool _)] ⟨rfl, rfl, rfl, rfl, rfl, rfl, rfl, rfl, rfl, rfl, rfl, trivial⟩ fun σ => ?_
          refine gseq fun N14 hN14 => ?_
          refine gcond (b := _) rfl (fun hc35 => ?_) (fun hc35 => ?_)
          · 
            replace hc35 := of_decide_eq_true hc35
            have hj1 : j < d[k].l.length := by omega
            obtain ⟨ad2, hq2, -, hcb⟩ := (hR.base (T := []) (Mem.start w)).at_ hj1
            have hn0 : 0 ≤ d[k].l[j] ∧ d[k].l[j] < (k : Int) := hlt _ (List.getElem_mem hj1)
            have hlb : -1 ≤ (levTo (ll d) k)[d[k].l[j].toNat]?.getD 0 ∧ (levTo (ll d) k)[d[k].l[j].toNat]?.getD 0 ≤ k := levTo_get_bd _ _ _
            refine gskip ?_
            refine hN14 _ _ ?_
            refine gfrom [(0, .slice _ _ _), (3, .pointer _), (6, .slice (some _) _ _), (8, .int _ _), (23, .slice _ _ _), (24, .int _ _), (25, .int _ _), (32, .slice _ _ _), (33, .int _ _), (34, .int _ _)] ⟨rfl, rfl, rfl, rfl, rfl, rfl, rfl, rfl, rfl, rfl, trivial⟩ fun σ => ?_
            refine gseq fun N15 hN15 => ?_
            refine gblock ?_
            refine gseq fun N16 hN16 => ?_
            refine greg ?_
            refine gop (y_indexAddr (m := j) Tryd.underlying28 Tryd.sizeOf3 (congrArg (fun z => Value.slice z d[k].l.length d[k].c) hq2) rfl (by omega) (by omega) (by omega)) rfl rfl rfl ?_
            refine gop (y_load Tryd.isAgg3 rfl (cell_base (hcb 0 _ rfl))) rfl rfl rfl ?_
            refine gop (y_assign (v := .int _ _) rfl) rfl rfl rfl ?_
            refine gops_nil ?_
            refine hN16 _ _ ?_
            refine gfrom [(0, .slice _ _ _), (3, .pointer _), (6, .slice (some _) _ _), (8, .int _ _), (10, .int _ _), (23, .slice _ _ _), (24, .int _ _), (25, .int _ _), (32, .slice _ _ _), (33, .int _ _), (34, .int _ _)] ⟨rfl, rfl, rfl, rfl, rfl, rfl, rfl, rfl, rfl, rfl, rfl, trivial⟩ fun σ => ?_
            refine greg_e0 [13] (by kernel_rfl) ?_
            refine ge_take 0 (TK := [box b3 _, rowl _ _ _ _ _ _, box b5 _, rowl _ _ _ _ _ _]) rfl (by kernel_rfl) (by kernel_rfl) (by kernel_rfl) #[false, true, true, true, true, true, true, true, true, true, true, true, false, false] (by kernel_rfl) rfl (y_move (v := .slice (some _) _ _) rfl) rfl rfl rfl (weak_refl) (listed' := #[true, false, false, false, false, false, false, false, false, false, false, false, false, false]) rfl ?_
            refine ge_take 1 (TK := [box b3 _, rowl _ _ _ _ _ _, box b5 _, rowl _ _ _ _ _ _]) rfl (by kernel_rfl) (by kernel_rfl) (by kernel_rfl) #[true, false, true, true, true, true, true, true, true, true, true, true, false, false] (by kernel_rfl) rfl (y_move (v := .int _ _) rfl) rfl rfl rfl (weak_refl) (listed' := #[true, true, false, false, false, false, false, false, false, false, false, false, false, false]) rfl ?_
            refine ge_take 2 (TK := [box b3 _, rowl _ _ _ _ _ _, box b5 _, rowl _ _ _ _ _ _]) rfl (by kernel_rfl) (by kernel_rfl) (by kernel_rfl) #[true, true, false, true, false, false, true, true, true, true, true, false, false, false] (by kernel_rfl) rfl (y_move (v := .slice (some _) _ _) rfl) rfl rfl rfl (weak_refl) (listed' := #[true, true, true, false, false, false, false, false, false, false, false, false, false, false]) rfl ?_
            refine ge_take 3 (TK := [box b3 _, rowl _ _ _ _ _ _, box b5 _, rowl _ _ _ _ _ _]) rfl (by kernel_rfl) (by kernel_rfl) (by kernel_rfl) #[true, true, true, false, false, false, true, true, true, true, true, false, false, false] (by kernel_rfl) rfl (y_move (v := .int _ _) rfl) rfl rfl rfl (weak_refl) (listed' := #[true, true, true, true, false, false, false, false, false, false, false, false, false, false]) rfl ?_
            refine ge_take 4 (TK := [box b3 _, rowl _ _ _ _ _ _, box b5 _, rowl _ _ _ _ _ _]) rfl (by kernel_rfl) (by kernel_rfl) (by kernel_rfl) #[true, true, true, true, false, false, true, true, true, true, true, false, false, false] (by kernel_rfl) rfl (y_indexAddr (m := k) Tryd.underlying28 Tryd.sizeOf3 rfl rfl (by omega) (by omega) (by omega)) rfl rfl rfl (weak_refl) (listed' := #[true, true, true, true, true, false, false, false, false, false, false, false, false, false]) rfl ?_
            refine ge_take 5 (TK := [box b3 _, rowl _ _ _ _ _ _, box b5 _, rowl _ _ _ _ _ _]) rfl (by kernel_rfl) (by kernel_rfl) (by kernel_rfl) #[true, true, true, true, true, false, true, true, true, true, true, false, false, false] (by kernel_rfl) rfl (y_load Tryd.isAgg3 rfl (cells_rowl 3 (f := intCells) rfl (levL_len hk1).symm (fun _ => rfl) levL_own 0 _ rfl)) rfl rfl rfl (weak_refl) (listed' := #[true, true, true, true, true, true, false, false, false, false, false, false, false, false]) rfl ?_
            refine ge_take 6 (TK := [box b3 _, rowl _ _ _ _ _ _, box b5 _, rowl _ _ _ _ _ _]) rfl (by kernel_rfl) (by kernel_rfl) (by kernel_rfl) #[true, true, true, true, true, true, false, true, false, false, false, false, false, false] (by kernel_rfl) rfl (y_move (v := .slice (some _) _ _) rfl) rfl rfl rfl (weak_refl) (listed' := #[true, true, true, true, true, true, true, false, false, false, false, false, false, false]) rfl ?_
            refine ge_take 7 (TK := [box b3 _, rowl _ _ _ _ _ _, box b5 _, rowl _ _ _ _ _ _]) rfl (by kernel_rfl) (by kernel_rfl) (by kernel_rfl) #[true, true, true, true, true, true, true, false, false, false, false, false, false, false] (by kernel_rfl) rfl (y_move (v := .int _ _) rfl) rfl rfl rfl (weak_refl) (listed' := #[true, true, true, true, true, true, true, true, false, false, false, false, false, false]) rfl ?_
            refine ge_take 8 (TK := [box b3 _, rowl _ _ _ _ _ _, box b5 _, rowl _ _ _ _ _ _]) rfl (by kernel_rfl) (by kernel_rfl) (by kernel_rfl) #[true, true, true, true, true, true, true, true, false, false, false, false, false, false] (by kernel_rfl) rfl (y_indexAddr (m := d[k].l[j].toNat) Tryd.underlying28 Tryd.sizeOf3 rfl rfl (by omega) (by omega) (by omega)) rfl rfl rfl (weak_refl) (listed' := #[true, true, true, true, true, true, true, true, true, false, false, false, false, false]) rfl ?_
            refine ge_take 9 (TK := [box b3 _, rowl _ _ _ _ _ _, box b5 _, rowl _ _ _ _ _ _]) rfl (by kernel_rfl) (by kernel_rfl) (by kernel_rfl) #[true, true, true, true, true, true, true, true, true, false, false, false, false, false] (by kernel_rfl) rfl (y_load Tryd.isAgg3 rfl (cells_rowl 3 (f := intCells) rfl (levL_len hk1).symm (fun _ => rfl) (levL_low (by omega)) 0 _ rfl)) rfl rfl rfl (weak_refl) (listed' := #[true, true, true, true, true, true, true, true, true, true, false, false, false, false]) rfl ?_
            refine ge_take 10 (TK := [box b3 _, rowl _ _ _ _ _ _, box b5 _, rowl _ _ _ _ _ _]) rfl (by kernel_rfl) (by kernel_rfl) (by kernel_rfl) #[true, true, true, true, true, true, true, true, true, true, false, false, false, false] (by kernel_rfl) rfl (y_add rfl rfl ⟨by omega, by omega⟩) rfl rfl rfl (weak_refl) (listed' := #[true, true, true, true, true, true, true, true, true, true, true, false, false, false]) rfl ?_
            refine ge_take 11 (TK := [box b3 _, rowl _ _ _ _ _ _, box b5 _, rowl _ _ _ _ _ _]) rfl (by kernel_rfl) (by kernel_rfl) (by kernel_rfl) #[true, true, true, true, true, true, true, true, true, true, true, false, false, false] (by kernel_rfl) rfl (y_max rfl rfl) rfl rfl rfl (weak_refl) (listed' := #[true, true, true, true, true, true, true, true, true, true, true, true, false, false]) rfl ?_
            refine ge_take 12 (TK := [box b3 _, rowl _ _ _ _ _ _, box b5 _, rowl _ _ _ _ _ _]) rfl (by kernel_rfl) (by kernel_rfl) (by kernel_rfl) #[true, true, true, true, true, true, true, true, true, true, true, true, false, false] (by kernel_rfl) rfl (y_indexAddr (m := k) Tryd.underlying28 Tryd.sizeOf3 rfl rfl (by omega) (by omega) (by omega)) rfl rfl rfl (weak_refl) (listed' := #[true, true, true, true, true, true, true, true, true, true, true, true, true, false]) rfl ?_
            refine ge_one 13 (k' := 1) (listed' := #[true, true, true, true, true, true, true, true, true, true, true, true, true, true]) (by kernel_rfl) rfl rfl rfl ?_
            refine gop_store_row 3 (f := intCells) (l := levL (ll d) d.length k (levTo' d[k].l (levTo (ll d) k) j)) (k := k) (o := 0) (v := .int _ _) (a := levTo' d[k].l (levTo (ll d) k) j) (a' := max (levTo' d[k].l (levTo (ll d) k) j) ((levTo (ll d) k)[d[k].l[j].toNat]?.getD 0 + 1)) (fun _ => rfl) rfl rfl rfl Tryd.sizeOf3 rfl rfl rfl rfl (levL_len hk1).symm levL_own (Nat.le_of_ble_eq_true rfl) rfl rfl ?_
            refine gops_nil ?_
            refine ge_fin (TK := []) rfl (weak_nil) ?_
            refine ge_done (by kernel_rfl) ?_
            refine hN15 _ _ ?_
            refine gT [box b3 _, rowl _ _ _ _ _ _, box b5 _, rowl _ _ _ _ _ _] rfl ?_
            refine gfrom [(0, .slice _ _ _), (3, .pointer _), (6, .slice (some _) _ _), (8, .int _ _), (23, .slice _ _ _), (24, .int _ _), (25, .int _ _), (32, .slice _ _ _), (33, .int _ _), (34, .int _ _)] ⟨rfl, rfl, rfl, rfl, rfl, rfl, rfl, rfl, rfl, rfl, trivial⟩ fun σ => ?_
            refine greg ?_
            refine gop (y_add rfl rfl ⟨by omega, by omega⟩) rfl rfl rfl ?_
            refine gop (y_move (v := .int _ _) rfl) rfl rfl rfl ?_
            refine gops_nil ?_
            rw [levL_set, ← levTo'_succ hj1]
            refine gnext2 (j + 1) (by omega) (show j + 1 ≤ _ by omega) ⟨rfl, trivial⟩ ⟨rfl, rfl, rfl, rfl, rfl, rfl, rfl, rfl, rfl, trivial⟩ ⟨_, rfl⟩
          · 
            replace hc35 := of_decide_eq_false hc35
            refine gexit ?_
            refine hN10 _ _ ?_
            refine gfrom [(0, .slice _ _ _), (3, .pointer _), (6, .slice (some _) _ _), (23, .slice _ _ _), (24, .int _ _), (25, .int _ _)] ⟨rfl, rfl, rfl, rfl, rfl, rfl, trivial⟩ fun σ => ?_
            refine greg ?_
            refine gop (y_add rfl rfl ⟨by omega, by omega⟩) rfl rfl rfl ?_
            refine gop (y_move (v := .int _ _) rfl) rfl rfl rfl ?_
            refine gops_nil ?_
            rw [levL_end hk1 (by omega)]
            refine gnext2 (k + 1) (by omega) (show k + 1 ≤ _ by omega) ⟨rfl, trivial⟩ ⟨rfl, rfl, rfl, rfl, rfl, trivial⟩ ⟨_, rfl⟩
      · 
        replace hc26 := of_decide_eq_false hc26
        refine gexit ?_
        refine hN6 _ _ ?_
        refine gfrom [(3, .pointer _), (6, .slice (some _) _ _)] ⟨rfl, rfl, trivial⟩ fun σ => ?_
        refine gseq fun N17 hN17 => ?_
        refine greg ?_
        refine gop (y_move (v := .slice (some _) _ _) rfl) rfl rfl rfl ?_
        refine gop (y_build (vs := []) (cells := #[.int .i64 0, .int .i64 0]) rfl bd25_) rfl rfl rfl ?_
        refine gop (y_assign (v := .slice (some _) _ _) rfl) rfl rfl rfl ?_
        refine gop_store 0 (v := .agg #[_, _]) (cs' := #[_, _]) rfl rfl Tryd.sizeOf25 rfl rfl rfl rfl (Nat.le_of_ble_eq_true rfl) rfl rfl ?_
        refine gops_nil ?_
        refine hN17 _ _ ?_
        refine gT [box b3 _, rowl _ _ _ _ _ _, box b5 _, rowl _ _ _ _ _ _] rfl ?_
        refine gfrom [(2, .slice (some _) _ _), (3, .pointer _)] ⟨rfl, rfl, trivial⟩ fun σ => ?_
        refine gret fun w1 hM => ?_
        refine ⟨_, res2 rfl (rt (v := .slice (some _) _ _) rfl) (rc 0 (cs := [_, _]) hM rfl rfl Tryd.isAgg25 Tryd.sizeOf25 rfl), ?_⟩
        have he : k = d.length := by omega
        subst he
        rw [levZ_all] at hM
        exact ⟨_, _, rfl, rfl, hM.dropTo 3 rfl⟩
end Go.Proofs.YtlmhppnbcbadbaaDoor
namespace Go.Cf
open Go.RowKit
structure Rule where
  kind : Int
  ins : List Int
structure RuleC where
  pl : Rule
  A : Option Addr
  c : Nat
abbrev ruleCells (r : RuleC) : List Value := [.int .i64 r.pl.kind, .slice r.A r.pl.ins.length r.c]
abbrev rpl (rs : List RuleC) : List Rule := rs.map RuleC.pl
structure RuR (w : World) (lo : Nat) (r : RuleC) : Prop where
  rd : Rdl w lo 1 intCells r.A r.pl.ins
  len : r.pl.ins.length ≤ maxLen
structure RusR (w : World) (lo : Nat) (A : Option Addr) (rs : List RuleC) : Prop where
  rd : Rdl w lo 2 ruleCells A rs
  each : ∀ r ∈ rs, RuR w lo r
theorem RusR.base {w0 w : World} {T : List Reg} {lo : Nat} {A : Option Addr} {d : List RuleC} (h : RusR w0 lo A d) (hM : Mem w0 T w) : RusR w lo A d := ⟨h.rd.base hM, fun a ha => ⟨(h.each a ha).rd.base hM, (h.each a ha).len⟩⟩
structure Step where
  rule : Int
  kind : Int
  ins : List Int
structure StepC where
  pl : Step
  A : Option Addr
  c : Nat
abbrev stepCells (s : StepC) : List Value := [.int .i64 s.pl.rule, .int .i64 s.pl.kind, .slice s.A s.pl.ins.length s.c]
theorem wide_step : Wide stepCells 3 := fun _ => ⟨rfl, by simp [stepCells, Value.oneCell']⟩
structure LCX (w : World) (lo : Nat) (a : LC) : Prop where
  rd : Rdl w lo 1 intCells a.A a.l
  nil : a.A = none → a.c = 0
  len : a.l.length ≤ a.c
  max : a.c ≤ maxLen
def catTo (ins : List Int) (E : List (List Int)) (k : Nat) : List Int := (ins.take k).flatMap fun n => E[n.toNat]?.getD []
def cat (ins : List Int) (E : List (List Int)) : List Int := ins.flatMap fun n => E[n.toNat]?.getD []
def leavesP (ins : List Int) (E : List (List Int)) : List Int := leaf (cat ins E)
theorem catTo_succ {ins : List Int} {E : List LC} {k n : Nat} (hk : k < ins.length) (hn : ins[k].toNat = n) (h : n < E.length) : catTo ins (ll E) (k + 1) = catTo ins (ll E) k ++ E[n].l := by
  unfold catTo
  rw [List.take_succ_eq_append_getElem hk, List.flatMap_append]
  subst hn
  simp [ll, h]
theorem catTo_all {ins : List Int} {E : List (List Int)} {k : Nat} (h : ins.length ≤ k) : catTo ins E k = cat ins E := by rw [catTo, List.take_of_length_le h]; rfl
theorem cat_len {E : List (List Int)} (hE : ∀ x ∈ E, x.length ≤ 30) : ∀ ins : List Int, (cat ins E).length ≤ 30 * ins.length
  | [] => by simp [cat]
  | n :: l => by
    have ih := cat_len hE l
    unfold cat at ih ⊢
    rw [List.flatMap_cons, List.length_append, List.length_cons]
    have h : (E[n.toNat]?.getD []).length ≤ 30 := by
      cases h : E[n.toNat]? with
      | none => simp
      | some x => exact hE x (List.mem_of_getElem? h)
    omega
theorem catTo_len {E : List (List Int)} {ins : List Int} (hE : ∀ x ∈ E, x.length ≤ 30) (hi : ins.length ≤ 8) (k : Nat) : (catTo ins E k).length ≤ 240 := by
  have h := cat_len hE (ins.take k)
  have h2 : (ins.take k).length ≤ ins.length := by simp; omega
  unfold cat at h
  unfold catTo; omega
theorem leavesP_mem {ins : List Int} {E : List (List Int)} {x : Int} (h : x ∈ leavesP ins E) : ∃ n ∈ ins, x ∈ E[n.toNat]?.getD [] := by
  have h1 := leaf_mem h
  obtain ⟨n, hn, hx⟩ := List.mem_flatMap.1 h1
  exact ⟨n, hn, hx⟩
theorem leavesP_app {ins : List Int} {E : List (List Int)} (x : List (List Int)) (h : ∀ n ∈ ins, 0 ≤ n ∧ n < E.length) : leavesP ins (E ++ x) = leavesP ins E := by
  unfold leavesP cat
  congr 1
  have : ∀ l : List Int, (∀ n ∈ l, 0 ≤ n ∧ n < E.length) → (l.flatMap fun n => (E ++ x)[n.toNat]?.getD []) = l.flatMap fun n => E[n.toNat]?.getD [] := by
    intro l
    induction l with
    | nil => intro _; rfl
    | cons n l ih =>
      intro hl
      have h1 := hl n (by simp)
      rw [List.flatMap_cons, List.flatMap_cons, ih (fun m hm => hl m (by simp [hm])), List.getElem?_append_left (by omega)]
  exact this ins h
def standsP (r : Rule) (i : Nat) (E : List (List Int)) : List Int := if r.kind ≠ 6 then [(i : Int)] else leavesP r.ins E
structure ROk (rs : List Rule) (E : List (List Int)) (i : Nat) (r : Rule) : Prop where
  lo : 1 ≤ r.kind
  hi : r.kind ≤ 6
  il : r.ins.length ≤ 8
  ins : ∀ n ∈ r.ins, 0 ≤ n ∧ n < (i : Int)
  own1 : r.kind = 1 → leavesP r.ins E = []
  own2 : 1 < r.kind → r.kind < 6 → leavesP r.ins E ≠ []
structure EOk (rs : List Rule) (E : List (List Int)) : Prop where
  len : E.length ≤ rs.length
  cap : rs.length ≤ 30
  mem : ∀ j (h : j < E.length), ∀ n ∈ E[j], 0 ≤ n ∧ n ≤ j ∧ ∃ r, rs[n.toNat]? = some r ∧ r.kind ≠ 6
  inc : ∀ j (h : j < E.length), E[j].Pairwise (· < ·)
  rok : ∀ j (h : j < E.length) (h2 : j < rs.length), ROk rs E j rs[j]
theorem EOk.nil {rs : List Rule} (h : rs.length ≤ 30) : EOk rs [] := ⟨Nat.zero_le _, h, fun _ h => absurd h (by simp), fun _ h => absurd h (by simp), fun _ h => absurd h (by simp)⟩
theorem EOk.short {rs : List Rule} {E : List (List Int)} (h : EOk rs E) : ∀ x ∈ E, x.length ≤ 30 := by
  intro x hx
  obtain ⟨j, hj, rfl⟩ := List.getElem_of_mem hx
  have h1 := h.mem j hj
  have hc := h.cap
  have hl := h.len
  rcases inc_len (b := ((j + 1 : Nat) : Int)) (inc_of (h.inc j hj)) (fun n hn => by have := h1 n hn; omega) with h2 | h2
  · omega
  · rw [h2]; simp
theorem leavesP_pair (ins : List Int) (E : List (List Int)) : (leavesP ins E).Pairwise (· < ·) := leaf_pair _
theorem EOk.leaves {rs : List Rule} {E : List (List Int)} (h : EOk rs E) {ins : List Int} {i : Nat} (hin : ∀ n ∈ ins, 0 ≤ n ∧ n < (i : Int)) (hi : i ≤ E.length) : ∀ x ∈ leavesP ins E, 0 ≤ x ∧ x < (i : Int) ∧ ∃ r, rs[x.toNat]? = some r ∧ r.kind ≠ 6 := by
  intro x hx
  obtain ⟨n, hn, hx⟩ := leavesP_mem hx
  have h1 := hin n hn
  have hl : n.toNat < E.length := by omega
  rw [List.getElem?_eq_getElem hl] at hx
  have h2 := h.mem n.toNat hl x hx
  exact ⟨h2.1, by omega, h2.2.2⟩
theorem ROk.more {rs : List Rule} {E : List (List Int)} {i : Nat} {r : Rule} (h : ROk rs E i r) (hi : i ≤ E.length) (x : List (List Int)) : ROk rs (E ++ x) i r := by
  have e := leavesP_app (E := E) (ins := r.ins) x (fun n hn => by have := h.ins n hn; omega)
  exact ⟨h.lo, h.hi, h.il, h.ins, by rw [e]; exact h.own1, by rw [e]; exact h.own2⟩
theorem EOk.snoc {rs : List Rule} {E : List (List Int)} {k : Nat} (h : EOk rs E) (he : E.length = k) (hk : k < rs.length) (hr : ROk rs E k rs[k]) : EOk rs (E ++ [standsP rs[k] k E]) := by
  refine ⟨by simp; omega, h.cap, fun j hj n hn => ?_, fun j hj => ?_, fun j hj hj2 => ?_⟩
  · rcases Nat.lt_or_ge j E.length with h1 | h1
    · rw [List.getElem_append_left h1] at hn; exact h.mem j h1 n hn
    · have hjk : j = k := by simp at hj; omega
      subst hjk
      rw [List.getElem_append_right h1] at hn
      simp only [List.getElem_singleton] at hn
      unfold standsP at hn
      split at hn
      · rename_i h6
        rw [List.mem_singleton.1 hn]
        refine ⟨by omega, by omega, rs[j], ?_, h6⟩
        simp [hk]
      · have := h.leaves (i := j) hr.ins (by omega) n hn
        exact ⟨this.1, by omega, this.2.2⟩
  · rcases Nat.lt_or_ge j E.length with h1 | h1
    · rw [List.getElem_append_left h1]; exact h.inc j h1
    · have hjk : j = k := by simp at hj; omega
      subst hjk
      rw [List.getElem_append_right h1]
      simp only [List.getElem_singleton]
      unfold standsP
      split
      · simp
      · exact leavesP_pair _ _
  · rcases Nat.lt_or_ge j E.length with h1 | h1
    · exact (h.rok j h1 hj2).more (by omega) _
    · have hjk : j = k := by simp at hj; omega
      subst hjk
      exact hr.more (by omega) _
def cntR (rs : List Rule) (n : Nat) : Nat := ((rs.take n).filter fun r => decide (r.kind ≠ 6)).length
theorem cntR_succ {rs : List Rule} {n : Nat} (h : n < rs.length) : cntR rs (n + 1) = cntR rs n + (if rs[n].kind ≠ 6 then 1 else 0) := by
  unfold cntR
  rw [List.take_succ_eq_append_getElem h, List.filter_append, List.length_append]
  by_cases h6 : rs[n].kind = 6
  · simp [h6]
  · simp [h6]
theorem cntR_mono {rs : List Rule} : ∀ {m n : Nat}, m ≤ n → n ≤ rs.length → cntR rs m ≤ cntR rs n := by
  intro m n h hn
  induction n with
  | zero => have : m = 0 := by omega
            subst this; exact Nat.le_refl _
  | succ n ih =>
    rcases Nat.lt_or_ge m (n + 1) with h1 | h1
    · have := ih (by omega) (by omega)
      rw [cntR_succ (by omega)]; omega
    · have : m = n + 1 := by omega
      subst this; exact Nat.le_refl _
theorem cntR_lt {rs : List Rule} {m n : Nat} (h : m < n) (hn : n ≤ rs.length) (h6 : (rs[m]'(by omega)).kind ≠ 6) : cntR rs m < cntR rs n := by
  have h1 := cntR_mono (rs := rs) (show m + 1 ≤ n by omega) hn
  rw [cntR_succ (by omega), if_pos h6] at h1; omega
theorem cntR_le (rs : List Rule) (n : Nat) : cntR rs n ≤ rs.length := by
  unfold cntR
  exact Nat.le_trans (List.length_filter_le _ _) (by simp; omega)
theorem cntR_all {rs : List Rule} (h : ∀ r ∈ rs, r.kind = 1) : cntR rs rs.length = rs.length := by
  unfold cntR
  rw [List.take_length, List.filter_eq_self.2]
  intro r hr
  rw [h r hr]; decide
structure SOk (i : Nat) (kind : Int) (ins : List Int) : Prop where
  lt : ∀ n ∈ ins, 0 ≤ n ∧ n < (i : Int)
  inc : Inc ins
  k1 : kind = 1 → ins = []
  k2 : kind ≠ 1 → ins ≠ []
def stepIn (rs : List Rule) (own : List Int) : List Int := own.map fun n => (cntR rs n.toNat : Int)
theorem step_ok {rs : List Rule} {E : List (List Int)} {i : Nat} (h : EOk rs E) (hl : E.length = rs.length) (hi : i < rs.length) (h6 : rs[i].kind ≠ 6) : SOk (cntR rs i) rs[i].kind (stepIn rs (leavesP rs[i].ins E)) := by
  have hr := h.rok i (by omega) hi
  have hlv := h.leaves (i := i) hr.ins (by omega)
  refine ⟨fun n hn => ?_, inc_of ?_, fun h1 => by rw [hr.own1 h1]; rfl, fun h1 => ?_⟩
  · obtain ⟨x, hx, rfl⟩ := List.mem_map.1 hn
    obtain ⟨a, b, r, hr1, hr2⟩ := hlv x hx
    obtain ⟨hx1, hx2⟩ := List.getElem?_eq_some_iff.1 hr1
    have := cntR_lt (rs := rs) (m := x.toNat) (n := i) (by omega) (by omega) (by rw [hx2]; exact hr2)
    omega
  · unfold stepIn
    rw [List.pairwise_map]
    refine (leavesP_pair rs[i].ins E).imp_of_mem ?_
    intro x y hx hy hxy
    obtain ⟨a, b, r, hr1, hr2⟩ := hlv x hx
    obtain ⟨a2, b2, _⟩ := hlv y hy
    obtain ⟨hx1, hx2⟩ := List.getElem?_eq_some_iff.1 hr1
    have := cntR_lt (rs := rs) (m := x.toNat) (n := y.toNat) (by omega) (by omega) (by rw [hx2]; exact hr2)
    omega
  · intro h2
    exact hr.own2 (by have := hr.lo; omega) (by have := hr.hi; omega) (List.map_eq_nil_iff.1 h2)
def permL : List (List Int) := [[], [], [1, 3], [2], [2, 3], [4], [1, 2, 3, 4, 5]]
def reqL : List Int := [0, 0, 1, 2, 2, 4, 0]
def LaidK (w : World) : Prop := ∃ PL, DepsR w 0 (some ⟨0, 0, none⟩) PL ∧ ll PL = permL ∧ Rdl w 0 1 intCells (some ⟨1, 0, none⟩) reqL
theorem LaidK.base {w0 w : World} {T : List Reg} (h : LaidK w0) (hM : Mem w0 T w) : LaidK w := by
  obtain ⟨PL, h1, h2, h3⟩ := h
  exact ⟨PL, h1.base hM, h2, h3.base hM⟩
end Go.Cf
namespace Go.Cf
open Go.RowKit
theorem perm_at {PL : List LC} (h : ll PL = permL) {m : Int} (hm : m.toNat < PL.length) (h1 : 1 ≤ m) (h6 : m ≤ 6) : PL[m.toNat].l.length ≤ 5 ∧ (m = 1 → ∀ x, ¬ hasI PL[m.toNat].l x = true) := by
  have e : (ll PL)[m.toNat]'(by simpa using hm) = PL[m.toNat].l := by simp [ll]
  have e2 : permL[m.toNat]? = some PL[m.toNat].l := by rw [← h, ← e]; simp [hm]
  have hp : ∀ l ∈ permL, l.length ≤ 5 := by decide
  refine ⟨hp _ (List.mem_of_getElem? e2), fun hm1 x => ?_⟩
  subst hm1
  have e3 : PL[(1 : Int).toNat].l = [] := by
    have : some ([] : List Int) = some PL[(1 : Int).toNat].l := e2
    exact (Option.some.inj this).symm
  rw [e3]; simp [hasI]
theorem req_at {m : Int} (h1 : 1 ≤ m) (h6 : m ≤ 6) (h : m.toNat < reqL.length) : (m = 1 → reqL[m.toNat] = 0) ∧ (1 < m → m < 6 → reqL[m.toNat] ≠ 0) := by
  have : m = 1 ∨ m = 2 ∨ m = 3 ∨ m = 4 ∨ m = 5 ∨ m = 6 := by omega
  rcases this with rfl | rfl | rfl | rfl | rfl | rfl <;> exact ⟨fun _ => by first | rfl | (exfalso; omega), fun _ _ => by first | (exfalso; omega) | (show (1 : Int) ≠ 0; decide) | (show (2 : Int) ≠ 0; decide) | (show (4 : Int) ≠ 0; decide)⟩
theorem cell_glob {w : World} {b m : Nat} {v : Value} (h : w.cell? ((⟨b, 0, none⟩ : Addr).add (m * 1 + 0)) = some v) : w.cell? ⟨b, 0 + m * 1, none⟩ = some v := by
  rw [Addr.add_lit] at h; exact h
end Go.Cf
namespace Go.Proofs.YtlmhppnbcbadbaaDoor
open Go.RowKit Go.Cf
set_option maxRecDepth 10000
theorem fa30_1 (a : Addr) (w : World) : (Instr.fieldAt 30 (.pointer (some a)) 1).run Tryd.prog w = .ok (.pointer (some (a.add 1))) w := by kernel_rfl
theorem fa30_0 (a : Addr) (w : World) : (Instr.fieldAt 30 (.pointer (some a)) 0).run Tryd.prog w = .ok (.pointer (some (a.add 0))) w := by kernel_rfl
set_option maxHeartbeats 4000000 in
theorem leaves_any (w : World) (kind : Int) (I : Option Addr) (ic : Nat) (ins : List Int) (hI : Rdl w 0 1 intCells I ins) (A : Option Addr) (c : Nat) (E : List LC) (hE : DepsR w 0 A E) (hEx : ∀ a ∈ E, a.A = none → a.c = 0) (hn : ∀ n ∈ ins, 0 ≤ n ∧ n < (E.length : Int)) (hil : ins.length ≤ 8) (hel : ∀ x ∈ ll E, x.length ≤ 30) :
    Calls Tryd.prog 9 #[.agg #[.int .i64 kind, .slice I ins.length ic], .slice A E.length c] w fun e w' => ∃ v T', e = .returned v ∧ T' = [rowl intCells w.heap.size 3 1 (v) (leavesP ins (ll E))] ∧ Mem w T' w' := by
  refine gcalls Tryd.func9 rfl Tryd.ntmps9 (Nat.le_of_ble_eq_true rfl) ?_
  refine gfrom [(0, .agg #[_, _]), (1, .slice _ _ _)] ⟨rfl, rfl, trivial⟩ fun σ => ?_
  refine gseq fun N1 hN1 => ?_
  refine greg ?_
  refine gop_box (v := .agg #[_, _]) (cs := #[_, _]) rfl rfl rfl (fun b2 hb2 => ?_)
  refine gop (y_assign (v := .slice _ _ _) rfl) rfl rfl rfl ?_
  refine gops_nil ?_
  refine hN1 _ _ ?_
  refine gT [box b2 _] rfl ?_
  refine gfrom [(1, .slice _ _ _), (2, .pointer _)] ⟨rfl, rfl, trivial⟩ fun σ => ?_
  refine gseq fun N2 hN2 => ?_
  refine greg ?_
  refine gop (y_assign (v := .slice _ _ _) rfl) rfl rfl rfl ?_
  refine gops_nil ?_
  refine hN2 _ _ ?_
  refine gfrom [(1, .slice _ _ _), (2, .pointer _), (5, .slice _ _ _)] ⟨rfl, rfl, rfl, trivial⟩ fun σ => ?_
  refine gseq fun N3 hN3 => ?_
  refine gseq fun N4 hN4 => ?_
  refine greg ?_
  refine gop (y_fieldAddr_box fa30_1 rfl) rfl rfl rfl ?_
  refine gop (y_load Tryd.isAgg28 rfl (cell_box 0 rfl rfl)) rfl rfl rfl ?_
  refine gop (y_len Tryd.underlying28 rfl) rfl rfl rfl ?_
  refine gop (y_move (v := .int _ _) rfl) rfl rfl rfl ?_
  refine gops_nil ?_
  refine hN4 _ _ ?_
  refine gfrom [(1, .slice _ _ _), (5, .slice _ _ _), (9, .slice _ _ _), (10, .int _ _), (11, .int _ _)] ⟨rfl, rfl, rfl, rfl, rfl, trivial⟩ fun σ => ?_
  refine gblock ?_
  refine gnilrow intCells 3 1 ?_
  refine gfrom2 [(5, .slice _ _ _), (11, .int _ _)] [(1, .slice _ _ _), (9, .slice _ _ _), (10, .int _ _)] ⟨rfl, rfl, trivial⟩ ⟨rfl, rfl, rfl, trivial⟩ fun σ => ?_
  refine gloop2 (G := Nat × Option Addr × Nat) (fun (k, Av, cv) => k ≤ ins.length) (fun (k, Av, cv) => ins.length - k) (fun (k, Av, cv) => [(5, .slice Av (catTo ins (ll E) k).length cv), (11, .int .i64 (k : Int))]) (fun (k, Av, cv) => [(1, rowl intCells w.heap.size 3 1 (.slice Av (catTo ins (ll E) k).length cv) ((catTo ins (ll E) k)))]) ((0, none, 0)) ?h0 ⟨rfl, rfl, trivial⟩ ⟨rfl, rfl, rfl, trivial⟩ rfl ?round
  case h0 => exact Nat.zero_le _
  case round =>
    rintro ⟨k, Av, cv⟩ hφ σ
    have hk : k ≤ ins.length := hφ
    refine gT [box b2 _, rowl _ _ _ _ _ _] rfl ?_
    refine gseq fun N5 hN5 => ?_
    refine greg ?_
    refine gop (y_lss rfl rfl) rfl rfl rfl ?_
    refine gops_nil ?_
    refine hN5 _ _ ?_
    refine gfrom [(1, .slice _ _ _), (5, .slice Av _ cv), (9, .slice _ _ _), (10, .int _ _), (11, .int _ _), (12, .bool _)] ⟨rfl, rfl, rfl, rfl, rfl, rfl, trivial⟩ fun σ => ?_
    refine gseq fun N6 hN6 => ?_
    refine gcond (b := _) rfl (fun hc12 => ?_) (fun hc12 => ?_)
    · 
      replace hc12 := of_decide_eq_true hc12
      have hk1 : k < ins.length := by omega
      obtain ⟨ad, rfl, -, hca⟩ := (hI.base (T := []) (Mem.start w)).at_ hk1
      obtain ⟨hn0, hn1⟩ := hn _ (List.getElem_mem hk1)
      have hkE : ins[k].toNat < E.length := by omega
      obtain ⟨ad2, rfl, -, hcb⟩ := hE.rd.at_ hkE
      obtain ⟨hR⟩ := hE.each _ (List.getElem_mem hkE)
      have hx := hEx _ (List.getElem_mem hkE)
      have hel1 : E[ins[k].toNat].l.length ≤ 30 := hel _ (List.mem_map_of_mem (List.getElem_mem hkE))
      have hcl := catTo_len hel hil k
      refine gskip ?_
      refine hN6 _ _ ?_
      refine gfrom [(1, .slice _ _ _), (5, .slice Av _ cv), (9, .slice _ _ _), (10, .int _ _), (11, .int _ _)] ⟨rfl, rfl, rfl, rfl, rfl, trivial⟩ fun σ => ?_
      refine gseq fun N7 hN7 => ?_
      refine gblock ?_
      refine gseq fun N8 hN8 => ?_
      refine greg ?_
      refine gop (y_indexAddr (m := k) Tryd.underlying28 Tryd.sizeOf3 rfl rfl (by omega) (by omega) (by omega)) rfl rfl rfl ?_
      refine gop (y_load Tryd.isAgg3 rfl (cell_base (hca 0 _ rfl))) rfl rfl rfl ?_
      refine gop (y_assign (v := .int _ _) rfl) rfl rfl rfl ?_
      refine gops_nil ?_
      refine hN8 _ _ ?_
      refine gfrom [(1, .slice _ _ _), (5, .slice Av _ cv), (7, .int _ _), (9, .slice _ _ _), (10, .int _ _), (11, .int _ _)] ⟨rfl, rfl, rfl, rfl, rfl, rfl, trivial⟩ fun σ => ?_
      refine greg ?_
      refine gop (y_move (v := .slice Av _ cv) rfl) rfl rfl rfl ?_
      refine gop (y_move (v := .slice _ _ _) rfl) rfl rfl rfl ?_
      refine gop (y_move (v := .int _ _) rfl) rfl rfl rfl ?_
      refine gop (y_indexAddr (m := ins[k].toNat) Tryd.underlying33 Tryd.sizeOf28 rfl rfl (by omega) (by omega) (by omega)) rfl rfl rfl ?_
      refine gop (y_load Tryd.isAgg28 rfl (cell_base (hcb 0 _ rfl))) rfl rfl rfl ?_
      refine gop_append 1 (f := intCells) (l2 := E[ins[k].toNat].l) Tryd.underlying28 el3 wide_int (v := .slice Av _ cv) rfl rfl rfl rfl hx (by first | omega | (simp [maxLen]; omega)) (by first | omega | (simp; omega)) (fun w hM => (hR.base hM).src (fun _ => rfl)) rfl (fun v20 => ?_)
      refine gops_fact (fun w hM => own_form (hM.own 1 rfl)) ?_
      rintro ⟨A20, c20, rfl, hc20, hm20⟩
      refine gop (y_assign (v := .slice A20 _ c20) rfl) rfl rfl rfl ?_
      refine gops_nil ?_
      refine hN7 _ _ ?_
      refine gT [box b2 _, rowl _ _ _ _ _ _] rfl ?_
      refine gfrom [(1, .slice _ _ _), (5, .slice A20 _ c20), (9, .slice _ _ _), (10, .int _ _), (11, .int _ _)] ⟨rfl, rfl, rfl, rfl, rfl, trivial⟩ fun σ => ?_
      refine greg ?_
      refine gop (y_add rfl rfl ⟨by omega, by omega⟩) rfl rfl rfl ?_
      refine gop (y_move (v := .int _ _) rfl) rfl rfl rfl ?_
      refine gops_nil ?_
      rw [← catTo_succ hk1 rfl hkE]
      refine gnext2 ((k + 1, A20, c20)) (by show ins.length - (k + 1) < ins.length - k; omega) (show k + 1 ≤ _ by omega) ⟨(by rw [catTo_succ hk1 rfl hkE]; rfl), rfl, trivial⟩ ⟨rfl, rfl, rfl, trivial⟩ ⟨_, rfl⟩
    · 
      replace hc12 := of_decide_eq_false hc12
      have hcl := catTo_len hel hil k
      have hca := catTo_all (E := ll E) (show ins.length ≤ k by omega)
      refine gexit ?_
      refine hN3 _ _ ?_
      refine gfrom [(5, .slice Av _ cv)] ⟨rfl, trivial⟩ fun σ => ?_
      refine gseq fun N9 hN9 => ?_
      refine greg ?_
      refine gop (y_move (v := .slice Av _ cv) rfl) rfl rfl rfl ?_
      refine gop_does1 1 (fun v r2 G => v = .tuple #[] ∧ r2 = rowl intCells w.heap.size 3 1 (.slice Av (catTo ins (ll E) k).length cv) (sortI (catTo ins (ll E) k)) ∧ G = []) (e_call (vs := [.slice Av _ cv]) Tryd.func15 rfl (by kernel_rfl) rfl) rfl (fun w fr1 hfr hM => sort_on _ w fr1 Av cv _ (catTo ins (ll E) k) hM (by omega)) rfl rfl rfl ?_
      rintro _ _ _ ⟨rfl, rfl, rfl⟩
      refine gops_nil ?_
      refine hN9 _ _ ?_
      refine gT [box b2 _, rowl _ _ _ _ _ _] rfl ?_
      refine gfrom [(5, .slice Av _ cv)] ⟨rfl, trivial⟩ fun σ => ?_
      refine gseq fun N10 hN10 => ?_
      refine greg ?_
      refine gop (y_move (v := .slice Av _ cv) rfl) rfl rfl rfl ?_
      refine gop_does1 1 (fun v r2 G => r2 = rowl intCells w.heap.size 3 1 (v) (Lib.compact (sortI (catTo ins (ll E) k))) ∧ G = []) (e_call (vs := [.slice Av _ cv]) Tryd.func16 rfl (by kernel_rfl) rfl) rfl (fun w fr1 hfr hM => compact_on _ w fr1 Av cv _ (sortI (catTo ins (ll E) k)) _ (sortI_len _).symm hM (by rw [sortI_len]; omega)) rfl rfl rfl ?_
      rintro v25 _ _ ⟨rfl, rfl⟩
      refine gop (y_assign (v := v25) rfl) rfl rfl rfl ?_
      refine gops_nil ?_
      refine hN10 _ _ ?_
      refine gT [box b2 _, rowl _ _ _ _ _ _] rfl ?_
      refine gfrom [(4, v25)] ⟨rfl, trivial⟩ fun σ => ?_
      refine gret fun w1 hM => ?_
      refine ⟨_, res1 rfl (rt (v := v25) rfl), ?_⟩
      have h9 := hM.dropTo 1 rfl
      rw [hca] at h9
      exact ⟨_, _, rfl, rfl, h9⟩
set_option maxHeartbeats 2000000 in
theorem stands_any (w : World) (kind : Int) (I : Option Addr) (ic : Nat) (ins : List Int) (hI : Rdl w 0 1 intCells I ins) (A : Option Addr) (c : Nat) (E : List LC) (hE : DepsR w 0 A E) (hEx : ∀ a ∈ E, a.A = none → a.c = 0) (i : Nat) (hi : i ≤ 1000) (hn : ∀ n ∈ ins, 0 ≤ n ∧ n < (E.length : Int)) (hil : ins.length ≤ 8) (hel : ∀ x ∈ ll E, x.length ≤ 30) :
    Calls Tryd.prog 14 #[.agg #[.int .i64 kind, .slice I ins.length ic], .int .i64 (i : Int), .slice A E.length c] w fun e w' => ∃ v T' lo, e = .returned v ∧ w.heap.size ≤ lo ∧ T' = [rowl intCells lo 3 1 (v) (standsP ⟨kind, ins⟩ i (ll E))] ∧ Mem w T' w' := by
  refine gcalls Tryd.func14 rfl Tryd.ntmps14 (Nat.le_of_ble_eq_true rfl) ?_
  refine gfrom [(0, .agg #[_, _]), (1, .int _ _), (2, .slice _ _ _)] ⟨rfl, rfl, rfl, trivial⟩ fun σ => ?_
  refine gseq fun N1 hN1 => ?_
  refine greg ?_
  refine gop_box (v := .agg #[_, _]) (cs := #[_, _]) rfl rfl rfl (fun b3 hb3 => ?_)
  refine gop (y_assign (v := .slice _ _ _) rfl) rfl rfl rfl ?_
  refine gops_nil ?_
  refine hN1 _ _ ?_
  refine gT [box b3 _] rfl ?_
  refine gfrom [(1, .int _ _), (2, .slice _ _ _), (3, .pointer _)] ⟨rfl, rfl, rfl, trivial⟩ fun σ => ?_
  refine gseq fun N2 hN2 => ?_
  refine gseq fun N3 hN3 => ?_
  refine greg ?_
  refine gop (y_fieldAddr_box fa30_0 rfl) rfl rfl rfl ?_
  refine gop (y_load Tryd.isAgg3 rfl (cell_box 0 rfl rfl)) rfl rfl rfl ?_
  refine gop (y_neq rfl rfl) rfl rfl rfl ?_
  refine gops_nil ?_
  refine hN3 _ _ ?_
  refine gfrom [(1, .int _ _), (2, .slice _ _ _), (3, .pointer _), (9, .bool _)] ⟨rfl, rfl, rfl, rfl, trivial⟩ fun σ => ?_
  refine gcond (b := _) rfl (fun hc9 => ?_) (fun hc9 => ?_)
  · 
    replace hc9 := of_decide_eq_true hc9
    refine gseq fun N4 hN4 => ?_
    refine greg ?_
    refine gop (y_move (v := .int _ _) rfl) rfl rfl rfl ?_
    refine gop_lit (vs := [.int _ _]) (cells := #[_]) Tryd.underlying28 Tryd.sizeOf3 Tryd.zeroValue3 rfl (by decide) (by decide) rfl rfl rfl rfl (fun b11 hb11 => ?_)
    refine gop (y_assign (v := .slice (some _) _ _) rfl) rfl rfl rfl ?_
    refine gops_nil ?_
    refine hN4 _ _ ?_
    refine gT [box b3 _, box b11 _] rfl ?_
    refine gfrom [(6, .slice (some _) _ _)] ⟨rfl, trivial⟩ fun σ => ?_
    refine gret fun w1 hM => ?_
    refine ⟨_, res1 rfl (rt (v := .slice (some _) _ _) rfl), ?_⟩
    have h9 := weak_boxrow (f := intCells) (l := [(i : Int)]) 1 rfl (fun _ => rfl) rfl (by simp [maxLen]) _ hM
    refine ⟨_, _, w.heap.size, rfl, Nat.le_refl _, ?_, h9.dropTo 1 rfl⟩
    rw [show standsP ⟨kind, ins⟩ i (ll E) = [(i : Int)] from if_pos hc9]
    rfl
  · 
    replace hc9 := Decidable.not_not.1 (of_decide_eq_false hc9)
    refine gskip ?_
    refine hN2 _ _ ?_
    refine gfrom [(2, .slice _ _ _), (3, .pointer _)] ⟨rfl, rfl, trivial⟩ fun σ => ?_
    refine gseq fun N5 hN5 => ?_
    refine greg ?_
    refine gop (y_loads (cs := [_, _]) Tryd.isAgg30 Tryd.sizeOf30 rfl rfl (cells_box 0 rfl)) rfl rfl rfl ?_
    refine gop (y_move (v := .slice _ _ _) rfl) rfl rfl rfl ?_
    refine gop_got (fun v T' => ∃ lo, w.heap.size ≤ lo ∧ T' = [rowl intCells lo 3 1 (v) (leavesP ins (ll E))]) (e_call (vs := [.agg #[_, _], .slice _ _ _]) Tryd.func9 rfl (by kernel_rfl) rfl) (fun w hM => (leaves_any w kind I ic ins (hI.base hM) A c E (hE.base hM) hEx hn hil hel).mono fun _ _ ⟨v, T1, h1, h2, h3⟩ => ⟨v, T1, h1, ⟨_, hM.low.size, h2⟩, h3⟩) rfl rfl rfl ?_
    rintro v14 _ ⟨lo14, hlo14, rfl⟩
    refine gop (y_assign (v := v14) rfl) rfl rfl rfl ?_
    refine gops_nil ?_
    refine hN5 _ _ ?_
    refine gT [box b3 _, rowl _ _ _ _ _ _] rfl ?_
    refine gfrom [(6, v14)] ⟨rfl, trivial⟩ fun σ => ?_
    refine gret fun w1 hM => ?_
    refine ⟨_, res1 rfl (rt (v := v14) rfl), ?_⟩
    refine ⟨_, _, lo14, rfl, hlo14, ?_, hM.dropTo 1 rfl⟩
    rw [show standsP ⟨kind, ins⟩ i (ll E) = leavesP ins (ll E) from if_neg (fun h => h hc9)]
    rfl
end Go.Proofs.YtlmhppnbcbadbaaDoor
namespace Go.Cf
open Go.RowKit
theorem LCX.mono {w : World} {lo lo' : Nat} {a : LC} (h : LCX w lo a) (hl : lo' ≤ lo) : LCX w lo' a := ⟨h.rd.mono hl, h.nil, h.len, h.max⟩
structure SCX (w : World) (lo : Nat) (s : StepC) : Prop where
  rd : Rdl w lo 1 intCells s.A s.pl.ins
  nil : s.A = none → s.c = 0
  len : s.pl.ins.length ≤ s.c
  max : s.c ≤ maxLen
theorem SCX.mono {w : World} {lo lo' : Nat} {a : StepC} (h : SCX w lo a) (hl : lo' ≤ lo) : SCX w lo' a := ⟨h.rd.mono hl, h.nil, h.len, h.max⟩
theorem EOk.at_ {rs : List RuleC} {E : List LC} {k : Nat} (h : EOk (rpl rs) (ll E)) (he : E.length = rs.length) (hk : k < rs.length) : ROk (rpl rs) (ll E) k rs[k].pl := by
  have h1 := h.rok k (by simpa [he] using hk) (by simpa using hk)
  rw [List.getElem_map] at h1; exact h1
theorem EOk.snocC {rs : List RuleC} {E : List LC} {k : Nat} (h : EOk (rpl rs) (ll E)) (he : E.length = k) (hk : k < rs.length) (hr : ROk (rpl rs) (ll E) k rs[k].pl) (A : Option Addr) (c : Nat) : EOk (rpl rs) (ll (E ++ [⟨standsP rs[k].pl k (ll E), A, c⟩])) := by
  have h1 := h.snoc (k := k) (by simp [he]) (by simpa using hk) (by rw [List.getElem_map]; exact hr)
  rw [List.getElem_map] at h1
  show EOk _ (List.map _ _)
  rw [List.map_append]; exact h1
theorem stepIn_len (rs : List Rule) (own : List Int) : (stepIn rs own).length = own.length := List.length_map ..
theorem stepIn_succ {rs : List Rule} {own : List Int} {j : Nat} (h : j < own.length) : (stepIn rs own).take (j + 1) = (stepIn rs own).take j ++ [(cntR rs own[j].toNat : Int)] := by
  rw [List.take_succ_eq_append_getElem (by rw [stepIn_len]; exact h)]
  congr 2
  exact List.getElem_map ..
theorem st_low {rs : List RuleC} {st : List Int} {k : Nat} {v : Int} (h : ∀ j (h : j < rs.length), j < k → rs[j].pl.kind ≠ 6 → st[j]? = some (cntR (rpl rs) j : Int)) (hst : st.length = rs.length) {x : Int} {r : Rule} (h0 : 0 ≤ x) (h1 : x < k)
    (hr : (rpl rs)[x.toNat]? = some r) (h6 : r.kind ≠ 6) : x.toNat < rs.length ∧ (st.set k v)[x.toNat]? = some (cntR (rpl rs) x.toNat : Int) := by
  obtain ⟨hx, e⟩ := List.getElem?_eq_some_iff.1 hr
  have hx2 : x.toNat < rs.length := by simpa using hx
  rw [List.getElem_map] at e
  refine ⟨hx2, ?_⟩
  rw [List.getElem?_set_ne (by omega)]
  exact h _ hx2 (by omega) (by rw [e]; exact h6)
theorem cntR_skip {rs : List RuleC} {k n : Nat} (hk : k < rs.length) (h : n = cntR (rpl rs) k) (h6 : rs[k].pl.kind = 6) : n = cntR (rpl rs) (k + 1) := by
  rw [cntR_succ (by simpa using hk), if_neg (by rw [List.getElem_map]; exact fun h => h h6)]; exact h
theorem cntR_take {rs : List RuleC} {k n m : Nat} (hk : k < rs.length) (h : n = cntR (rpl rs) k) (h6 : rs[k].pl.kind ≠ 6) (hm : m = n + 1) : m = cntR (rpl rs) (k + 1) := by
  rw [cntR_succ (by simpa using hk), if_pos (by rw [List.getElem_map]; exact h6), hm, h]
theorem st_skip {rs : List RuleC} {st : List Int} {k : Nat} (h : ∀ j (h : j < rs.length), j < k → rs[j].pl.kind ≠ 6 → st[j]? = some (cntR (rpl rs) j : Int)) (hk : k < rs.length) (h6 : rs[k].pl.kind = 6) :
    ∀ j (h : j < rs.length), j < k + 1 → rs[j].pl.kind ≠ 6 → st[j]? = some (cntR (rpl rs) j : Int) := fun j hj hjk h9 => by
  rcases Nat.lt_succ_iff_lt_or_eq.1 hjk with h1 | rfl
  · exact h j hj h1 h9
  · exact absurd h6 h9
theorem st_take {rs : List RuleC} {st : List Int} {k n : Nat} (h : ∀ j (h : j < rs.length), j < k → rs[j].pl.kind ≠ 6 → st[j]? = some (cntR (rpl rs) j : Int)) (hst : st.length = rs.length) (hn : n = cntR (rpl rs) k) :
    ∀ j (h : j < rs.length), j < k + 1 → rs[j].pl.kind ≠ 6 → (st.set k (n : Int))[j]? = some (cntR (rpl rs) j : Int) := fun j hj hjk h9 => by
  rcases Nat.lt_succ_iff_lt_or_eq.1 hjk with h1 | rfl
  · rw [List.getElem?_set_ne (by omega)]; exact h j hj h1 h9
  · rw [List.getElem?_set_self (by omega), hn]
theorem steps_snoc {ss : List StepC} {s : StepC} (h : ∀ i (h : i < ss.length), SOk i ss[i].pl.kind ss[i].pl.ins) (hs : SOk ss.length s.pl.kind s.pl.ins) : ∀ i (h : i < (ss ++ [s]).length), SOk i (ss ++ [s])[i].pl.kind (ss ++ [s])[i].pl.ins := fun i hi => by
  rcases Nat.lt_or_ge i ss.length with h1 | h1
  · rw [List.getElem_append_left h1]; exact h i h1
  · obtain rfl : i = ss.length := by simp at hi; omega
    rw [List.getElem_append_right h1]
    simpa using hs
theorem step_okC {rs : List RuleC} {E : List LC} {k : Nat} (h : EOk (rpl rs) (ll E)) (hl : E.length = rs.length) (hk : k < rs.length) (h6 : rs[k].pl.kind ≠ 6) : SOk (cntR (rpl rs) k) rs[k].pl.kind (stepIn (rpl rs) (leavesP rs[k].pl.ins (ll E))) := by
  have h1 := step_ok (i := k) h (by simp [hl]) (by simpa using hk) (by rw [List.getElem_map]; exact h6)
  rw [List.getElem_map] at h1; exact h1
end Go.Cf
namespace Go.Cf
open Go.RowKit
def toLC (s : StepC) : LC := ⟨s.pl.ins, s.A, s.c⟩
def depsTo (ss : List StepC) (k : Nat) : List LC := (ss.take k).map toLC
theorem depsTo_succ {ss : List StepC} {k : Nat} (h : k < ss.length) : depsTo ss (k + 1) = depsTo ss k ++ [toLC ss[k]] := by
  unfold depsTo
  rw [List.take_succ_eq_append_getElem h, List.map_append]; rfl
theorem depsTo_len (ss : List StepC) : (depsTo ss ss.length).length = ss.length := by simp [depsTo]
theorem depsTo_mem {ss : List StepC} {k : Nat} {a : LC} (h : a ∈ depsTo ss k) : ∃ s ∈ ss, a = toLC s := by
  obtain ⟨s, hs, rfl⟩ := List.mem_map.1 h
  exact ⟨s, List.mem_of_mem_take hs, rfl⟩
theorem depsTo_ll (ss : List StepC) : ll (depsTo ss ss.length) = ss.map fun s => s.pl.ins := by
  unfold depsTo ll
  rw [List.take_length, List.map_map]; rfl
theorem down_steps {ss : List StepC} (h : ∀ i (h : i < ss.length), SOk i ss[i].pl.kind ss[i].pl.ins) (hl : ss.length ≤ 24) : Down (ll (depsTo ss ss.length)) := by
  rw [depsTo_ll]
  refine ⟨by simpa using hl, fun i hi n hn => ?_, fun i hi => ?_⟩
  · have hi' : i < ss.length := by simpa using hi
    rw [List.getElem_map] at hn
    exact (h i hi').lt n hn
  · have hi' : i < ss.length := by simpa using hi
    rw [List.getElem_map]
    exact (h i hi').inc
theorem down_one : Down (ll [⟨[], none, 0⟩]) := by
  refine ⟨by simp, fun i hi n hn => ?_, fun i hi => ?_⟩
  · have : i = 0 := by simp at hi; omega
    subst this; cases hn
  · have : i = 0 := by simp at hi; omega
    subst this; intro j hj; exact absurd hj (Nat.not_lt_zero _)
theorem lev_steps {ss : List StepC} (h : ∀ i (h : i < ss.length), SOk i ss[i].pl.kind ss[i].pl.ins) {k : Nat} (hk : k < ss.length) :
    ss[k].pl.kind = 1 ∧ levN ((ll (depsTo ss ss.length))[k]?.getD []) (levTo (ll (depsTo ss ss.length)) k) = 0 ∨ ss[k].pl.kind ≠ 1 ∧ 1 ≤ levN ((ll (depsTo ss ss.length))[k]?.getD []) (levTo (ll (depsTo ss ss.length)) k) := by
  have e : (ll (depsTo ss ss.length))[k]?.getD [] = ss[k].pl.ins := by rw [depsTo_ll]; simp [hk]
  rw [e]
  by_cases h1 : ss[k].pl.kind = 1
  · left
    rw [(h k hk).k1 h1]; exact ⟨h1, lev_zero⟩
  · right
    exact ⟨h1, lev_pos ((h k hk).k2 h1) (fun x hx => lev_nonneg _ _ x hx)⟩
end Go.Cf
namespace Go.Proofs.YtlmhppnbcbadbaaDoor
open Go.RowKit Go.Cf
set_option maxRecDepth 10000
set_option maxHeartbeats 8000000 in
theorem ruleCheck_any (w : World) (B : Option Addr) (bc : Nat) (rs : List RuleC) (hR : RusR w 0 B rs) (i : Nat) (hi : i < rs.length) (A : Option Addr) (c : Nat) (E : List LC) (hE : DepsR w 0 A E) (hEx : ∀ a ∈ E, a.A = none → a.c = 0) (hEO : EOk (rpl rs) (ll E)) (hEl : E.length = i) (hL : LaidK w) :
    Calls Tryd.prog 13 #[.slice B rs.length bc, .int .i64 (i : Int), .slice A E.length c] w fun e w' => ∃ code : Int, e = .returned (.int .i64 code) ∧ Below w.heap.size w w' ∧ (code = 0 → ROk (rpl rs) (ll E) i rs[i].pl) ∧ (rs[i].pl.kind = 1 ∧ rs[i].pl.ins = [] → code = 0) := by
  have hcap : rs.length ≤ 30 := by have h9 := hEO.cap; simpa using h9
  have hmx : maxLen = 9223372036854775807 := rfl
  obtain ⟨ad, rfl, -, hca⟩ := hR.rd.at_ hi
  obtain ⟨hI, hIl⟩ := hR.each _ (List.getElem_mem hi)
  obtain ⟨⟨⟨kind, ins⟩, I, ic⟩, hr⟩ : ∃ r, rs[i] = r := ⟨_, rfl⟩
  rw [hr] at hca hI hIl ⊢
  replace hca : ∀ (j : Nat) (u : Value), ([.int .i64 kind, .slice I ins.length ic] : List Value)[j]? = some u → w.cell? (ad.add (i * 2 + j)) = some u := hca
  replace hI : Rdl w 0 1 intCells I ins := hI
  replace hIl : ins.length ≤ maxLen := hIl
  show Calls _ _ _ _ fun e w' => ∃ code : Int, e = .returned (.int .i64 code) ∧ Below w.heap.size w w' ∧ (code = 0 → ROk (rpl rs) (ll E) i ⟨kind, ins⟩) ∧ (kind = 1 ∧ ins = [] → code = 0)
  obtain ⟨PL, hP, hPl, hQ⟩ := hL
  have hPn : PL.length = 7 := by have h9 := congrArg List.length hPl; simpa [permL] using h9
  refine gcalls Tryd.func13 rfl Tryd.ntmps13 (Nat.le_of_ble_eq_true rfl) ?_
  refine gfrom [(0, .slice _ _ _), (1, .int _ _), (2, .slice _ _ _)] ⟨rfl, rfl, rfl, trivial⟩ fun σ => ?_
  refine gseq fun N1 hN1 => ?_
  refine greg ?_
  refine gop (y_assign (v := .int _ _) rfl) rfl rfl rfl ?_
  refine gops_nil ?_
  refine hN1 _ _ ?_
  refine gfrom [(0, .slice _ _ _), (1, .int _ _), (2, .slice _ _ _)] ⟨rfl, rfl, rfl, trivial⟩ fun σ => ?_
  refine gseq fun N2 hN2 => ?_
  refine greg ?_
  refine gop (y_move (v := .slice _ _ _) rfl) rfl rfl rfl ?_
  refine gop (y_move (v := .int _ _) rfl) rfl rfl rfl ?_
  refine gop (y_indexAddr (m := i) Tryd.underlying22 Tryd.sizeOf30 rfl rfl (by omega) (by omega) (by omega)) rfl rfl rfl ?_
  refine gop (y_loads (cs := [_, _]) Tryd.isAgg30 Tryd.sizeOf30 rfl rfl (cells_base hca)) rfl rfl rfl ?_
  refine gop_alloc (cs := #[.int .i64 0, .slice none 0 0]) Tryd.zeroValue30 rfl rfl (fun b7 hb7 => ?_)
  refine gop_store 0 (v := .agg #[_, _]) (cs' := #[_, _]) rfl rfl Tryd.sizeOf30 rfl rfl rfl rfl (Nat.le_of_ble_eq_true rfl) rfl rfl ?_
  refine gops_nil ?_
  refine hN2 _ _ ?_
  refine gT [box b7 _] rfl ?_
  refine gfrom [(0, .slice _ _ _), (1, .int _ _), (2, .slice _ _ _), (7, .pointer _)] ⟨rfl, rfl, rfl, rfl, trivial⟩ fun σ => ?_
  refine gseq fun N3 hN3 => ?_
  refine gseq fun N4 hN4 => ?_
  refine greg ?_
  refine gop (y_fieldAddr_box fa30_0 rfl) rfl rfl rfl ?_
  refine gop (y_load Tryd.isAgg3 rfl (cell_box 0 rfl rfl)) rfl rfl rfl ?_
  refine gop (y_lss rfl rfl) rfl rfl rfl ?_
  refine gop (y_move (v := .bool _) rfl) rfl rfl rfl ?_
  refine gop_if (want := false) rfl rfl rfl rfl rfl rfl (fun hg21 => ?_) (fun hg21 => ?_)
  · 
    have hg21d := of_decide_eq_false hg21
    refine gop (y_bare (y_fieldAddr_box fa30_0 rfl)) rfl rfl rfl ?_
    refine gop_on rfl rfl rfl rfl hg21 ?_
    refine gop (y_bare (y_load Tryd.isAgg3 rfl (cell_box 0 rfl rfl))) rfl rfl rfl ?_
    refine gop_on rfl rfl rfl rfl hg21 ?_
    refine gop (y_bare (y_gtr rfl rfl)) rfl rfl rfl ?_
    refine gop (y_pick_f (v := .bool _) rfl hg21 rfl) rfl rfl rfl ?_
    refine gops_nil ?_
    refine hN4 _ _ ?_
    refine gfrom [(0, .slice _ _ _), (1, .int _ _), (2, .slice _ _ _), (7, .pointer _), (25, .bool _)] ⟨rfl, rfl, rfl, rfl, rfl, trivial⟩ fun σ => ?_
    refine gcond (b := _) rfl (fun hc25 => ?_) (fun hc25 => ?_)
    · 
      replace hc25 := of_decide_eq_true hc25
      refine gseq fun N5 hN5 => ?_
      refine greg ?_
      refine gop (y_assign (v := .int _ _) rfl) rfl rfl rfl ?_
      refine gops_nil ?_
      refine hN5 _ _ ?_
      refine gfrom [(6, .int _ _)] ⟨rfl, trivial⟩ fun σ => ?_
      refine gret fun w1 hM => ?_
      refine ⟨_, res1 rfl (rt (v := .int _ _) rfl), ?_⟩
      exact ⟨4, rfl, hM.low, fun h => absurd h (by decide), fun hz => by exfalso; obtain ⟨hz1, hz2⟩ := hz; omega⟩
    · 
      replace hc25 := of_decide_eq_false hc25
      have hkd : 1 ≤ kind ∧ kind ≤ 6 := ⟨by omega, by omega⟩
      obtain ⟨ad3, hq3, -, hcp⟩ := hP.rd.at_ (k := kind.toNat) (by omega)
      cases hq3
      obtain ⟨ad4, hq4, -, hcq⟩ := hQ.at_ (k := kind.toNat) (by show _ < 7; omega)
      cases hq4
      have hpA := perm_at hPl (show kind.toNat < PL.length by omega) hkd.1 hkd.2
      have hrq := req_at hkd.1 hkd.2 (show kind.toNat < reqL.length by show _ < 7; omega)
      have hPR := (hP.each _ (List.getElem_mem (show kind.toNat < PL.length by omega))).rd
      refine gskip ?_
      refine hN3 _ _ ?_
      refine gfrom [(0, .slice _ _ _), (1, .int _ _), (2, .slice _ _ _), (7, .pointer _)] ⟨rfl, rfl, rfl, rfl, trivial⟩ fun σ => ?_
      refine gseq fun N6 hN6 => ?_
      refine gseq fun N7 hN7 => ?_
      refine greg ?_
      refine gop (y_fieldAddr_box fa30_1 rfl) rfl rfl rfl ?_
      refine gop (y_load Tryd.isAgg28 rfl (cell_box 0 rfl rfl)) rfl rfl rfl ?_
      refine gop (y_len Tryd.underlying28 rfl) rfl rfl rfl ?_
      refine gop (y_gtr rfl rfl) rfl rfl rfl ?_
      refine gops_nil ?_
      refine hN7 _ _ ?_
      refine gfrom [(0, .slice _ _ _), (1, .int _ _), (2, .slice _ _ _), (7, .pointer _), (29, .bool _)] ⟨rfl, rfl, rfl, rfl, rfl, trivial⟩ fun σ => ?_
      refine gcond (b := _) rfl (fun hc29 => ?_) (fun hc29 => ?_)
      · 
        replace hc29 := of_decide_eq_true hc29
        refine gseq fun N8 hN8 => ?_
        refine greg ?_
        refine gop (y_assign (v := .int _ _) rfl) rfl rfl rfl ?_
        refine gops_nil ?_
        refine hN8 _ _ ?_
        refine gfrom [(6, .int _ _)] ⟨rfl, trivial⟩ fun σ => ?_
        refine gret fun w1 hM => ?_
        refine ⟨_, res1 rfl (rt (v := .int _ _) rfl), ?_⟩
        exact ⟨2, rfl, hM.low, fun h => absurd h (by decide), fun hz => by exfalso; obtain ⟨hz1, hz2⟩ := hz; subst hz2; simp at *⟩
      · 
        replace hc29 := of_decide_eq_false hc29
        refine gskip ?_
        refine hN6 _ _ ?_
        refine gfrom [(0, .slice _ _ _), (1, .int _ _), (2, .slice _ _ _), (7, .pointer _)] ⟨rfl, rfl, rfl, rfl, trivial⟩ fun σ => ?_
        refine gseq fun N9 hN9 => ?_
        refine gseq fun N10 hN10 => ?_
        refine greg ?_
        refine gop (y_fieldAddr_box fa30_1 rfl) rfl rfl rfl ?_
        refine gop (y_load Tryd.isAgg28 rfl (cell_box 0 rfl rfl)) rfl rfl rfl ?_
        refine gop (y_len Tryd.underlying28 rfl) rfl rfl rfl ?_
        refine gop (y_move (v := .int _ _) rfl) rfl rfl rfl ?_
        refine gops_nil ?_
        refine hN10 _ _ ?_
        refine gfrom [(0, .slice _ _ _), (1, .int _ _), (2, .slice _ _ _), (7, .pointer _), (31, .slice _ _ _), (32, .int _ _), (33, .int _ _)] ⟨rfl, rfl, rfl, rfl, rfl, rfl, rfl, trivial⟩ fun σ => ?_
        refine gblock ?_
        refine gfrom2 [(33, .int _ _)] [(0, .slice _ _ _), (1, .int _ _), (2, .slice _ _ _), (7, .pointer _), (31, .slice _ _ _), (32, .int _ _)] ⟨rfl, trivial⟩ ⟨rfl, rfl, rfl, rfl, rfl, rfl, trivial⟩ fun σ => ?_
        refine gloop2 (G := Nat) (fun k => k ≤ ins.length ∧ ∀ j (h : j < ins.length), j < k → 0 ≤ ins[j] ∧ ins[j] < (i : Int)) (fun k => ins.length - k) (fun k => [(33, .int .i64 (k : Int))]) (fun k => []) (0) ?h0 ⟨rfl, trivial⟩ ⟨rfl, rfl, rfl, rfl, rfl, rfl, trivial⟩ rfl ?round
        case h0 => exact ⟨Nat.zero_le _, fun _ _ h => absurd h (by omega)⟩
        case round =>
          intro k hφ σ
          obtain ⟨hk, hz⟩ := hφ
          refine gseq fun N11 hN11 => ?_
          refine greg ?_
          refine gop (y_lss rfl rfl) rfl rfl rfl ?_
          refine gops_nil ?_
          refine hN11 _ _ ?_
          refine gfrom [(0, .slice _ _ _), (1, .int _ _), (2, .slice _ _ _), (7, .pointer _), (31, .slice _ _ _), (32, .int _ _), (33, .int _ _), (34, .bool _)] ⟨rfl, rfl, rfl, rfl, rfl, rfl, rfl, rfl, trivial⟩ fun σ => ?_
          refine gseq fun N12 hN12 => ?_
          refine gcond (b := _) rfl (fun hc34 => ?_) (fun hc34 => ?_)
          · 
            replace hc34 := of_decide_eq_true hc34
            have hk1 : k < ins.length := by omega
            obtain ⟨ad2, rfl, -, hcb⟩ := (hI.base (T := []) (Mem.start w)).at_ hk1
            refine gskip ?_
            refine hN12 _ _ ?_
            refine gfrom [(0, .slice _ _ _), (1, .int _ _), (2, .slice _ _ _), (7, .pointer _), (31, .slice _ _ _), (32, .int _ _), (33, .int _ _)] ⟨rfl, rfl, rfl, rfl, rfl, rfl, rfl, trivial⟩ fun σ => ?_
            refine gseq fun N13 hN13 => ?_
            refine gblock ?_
            refine gseq fun N14 hN14 => ?_
            refine greg ?_
            refine gop (y_move (v := .int _ _) rfl) rfl rfl rfl ?_
            refine gop (y_indexAddr (m := k) Tryd.underlying28 Tryd.sizeOf3 rfl rfl (by omega) (by omega) (by omega)) rfl rfl rfl ?_
            refine gop (y_load Tryd.isAgg3 rfl (cell_base (hcb 0 _ rfl))) rfl rfl rfl ?_
            refine gop (y_assign (v := .int _ _) rfl) rfl rfl rfl ?_
            refine gop (y_assign (v := .int _ _) rfl) rfl rfl rfl ?_
            refine gops_nil ?_
            refine hN14 _ _ ?_
            refine gfrom [(0, .slice _ _ _), (1, .int _ _), (2, .slice _ _ _), (7, .pointer _), (8, .int _ _), (9, .int _ _), (31, .slice _ _ _), (32, .int _ _), (33, .int _ _)] ⟨rfl, rfl, rfl, rfl, rfl, rfl, rfl, rfl, rfl, trivial⟩ fun σ => ?_
            refine gseq fun N15 hN15 => ?_
            refine gseq fun N16 hN16 => ?_
            refine greg ?_
            refine gop (y_move (v := .int _ _) rfl) rfl rfl rfl ?_
            refine gop (y_lss rfl rfl) rfl rfl rfl ?_
            refine gop (y_move (v := .bool _) rfl) rfl rfl rfl ?_
            refine gop_if (want := false) rfl rfl rfl rfl rfl rfl (fun hg40 => ?_) (fun hg40 => ?_)
            · 
              have hg40d := of_decide_eq_false hg40
              refine gop (y_bare (y_move (v := .int _ _) rfl)) rfl rfl rfl ?_
              refine gop_on rfl rfl rfl rfl hg40 ?_
              refine gop (y_bare (y_move (v := .int _ _) rfl)) rfl rfl rfl ?_
              refine gop_on rfl rfl rfl rfl hg40 ?_
              refine gop (y_bare (y_geq rfl rfl)) rfl rfl rfl ?_
              refine gop (y_pick_f (v := .bool _) rfl hg40 rfl) rfl rfl rfl ?_
              refine gops_nil ?_
              refine hN16 _ _ ?_
              refine gfrom [(0, .slice _ _ _), (1, .int _ _), (2, .slice _ _ _), (7, .pointer _), (8, .int _ _), (9, .int _ _), (31, .slice _ _ _), (32, .int _ _), (33, .int _ _), (44, .bool _)] ⟨rfl, rfl, rfl, rfl, rfl, rfl, rfl, rfl, rfl, rfl, trivial⟩ fun σ => ?_
              refine gcond (b := _) rfl (fun hc44 => ?_) (fun hc44 => ?_)
              · 
                replace hc44 := of_decide_eq_true hc44
                refine gseq fun N17 hN17 => ?_
                refine greg ?_
                refine gop (y_assign (v := .int _ _) rfl) rfl rfl rfl ?_
                refine gops_nil ?_
                refine hN17 _ _ ?_
                refine gfrom [(6, .int _ _)] ⟨rfl, trivial⟩ fun σ => ?_
                refine gret fun w1 hM => ?_
                refine ⟨_, res1 rfl (rt (v := .int _ _) rfl), ?_⟩
                exact ⟨3, rfl, hM.low, fun h => absurd h (by decide), fun hz => by exfalso; obtain ⟨hz1, hz2⟩ := hz; subst hz2; exact absurd hk1 (Nat.not_lt_zero _)⟩
              · 
                replace hc44 := of_decide_eq_false hc44
                refine gskip ?_
                refine hN15 _ _ ?_
                refine gfrom [(0, .slice _ _ _), (1, .int _ _), (2, .slice _ _ _), (7, .pointer _), (8, .int _ _), (9, .int _ _), (31, .slice _ _ _), (32, .int _ _), (33, .int _ _)] ⟨rfl, rfl, rfl, rfl, rfl, rfl, rfl, rfl, rfl, trivial⟩ fun σ => ?_
                refine gseq fun N18 hN18 => ?_
                refine greg ?_
                refine gop (y_move (v := .int _ _) rfl) rfl rfl rfl ?_
                refine gop (y_gtr rfl rfl) rfl rfl rfl ?_
                refine gop (y_move (v := .bool _) rfl) rfl rfl rfl ?_
                refine gop_if (want := true) rfl rfl rfl rfl rfl rfl (fun hg47 => ?_) (fun hg47 => ?_)
                · 
                  have hg47d := of_decide_eq_true hg47
                  obtain ⟨ad6, hq6, -, hcb2⟩ := (hI.base (T := []) (Mem.start w)).at_ (show k - 1 < ins.length by omega)
                  cases hq6
                  refine gop (y_bare (y_move (v := .int _ _) rfl)) rfl rfl rfl ?_
                  refine gop_on rfl rfl rfl rfl hg47 ?_
                  refine gop (y_bare (y_fieldAddr_box fa30_1 rfl)) rfl rfl rfl ?_
                  refine gop_on rfl rfl rfl rfl hg47 ?_
                  refine gop (y_bare (y_load Tryd.isAgg28 rfl (cell_box 0 rfl rfl))) rfl rfl rfl ?_
                  refine gop_on rfl rfl rfl rfl hg47 ?_
                  refine gop (y_bare (y_move (v := .int _ _) rfl)) rfl rfl rfl ?_
                  refine gop_on rfl rfl rfl rfl hg47 ?_
                  refine gop (y_bare (y_sub rfl rfl ⟨by omega, by omega⟩)) rfl rfl rfl ?_
                  refine gop_on rfl rfl rfl rfl hg47 ?_
                  refine gop (y_bare (y_indexAddr (m := k - 1) Tryd.underlying28 Tryd.sizeOf3 rfl rfl (by omega) (by omega) (by omega))) rfl rfl rfl ?_
                  refine gop_on rfl rfl rfl rfl hg47 ?_
                  refine gop (y_bare (y_load Tryd.isAgg3 rfl (cell_base (hcb2 0 _ rfl)))) rfl rfl rfl ?_
                  refine gop_on rfl rfl rfl rfl hg47 ?_
                  refine gop (y_bare (y_leq rfl rfl)) rfl rfl rfl ?_
                  refine gop (y_pick_t (v := .bool _) rfl hg47 rfl) rfl rfl rfl ?_
                  refine gops_nil ?_
                  refine hN18 _ _ ?_
                  refine gfrom [(0, .slice _ _ _), (1, .int _ _), (2, .slice _ _ _), (7, .pointer _), (31, .slice _ _ _), (32, .int _ _), (33, .int _ _), (56, .bool _)] ⟨rfl, rfl, rfl, rfl, rfl, rfl, rfl, rfl, trivial⟩ fun σ => ?_
                  refine gcond (b := _) rfl (fun hc56 => ?_) (fun hc56 => ?_)
                  · 
                    replace hc56 := of_decide_eq_true hc56
                    refine gseq fun N19 hN19 => ?_
                    refine greg ?_
                    refine gop (y_assign (v := .int _ _) rfl) rfl rfl rfl ?_
                    refine gops_nil ?_
                    refine hN19 _ _ ?_
                    refine gfrom [(6, .int _ _)] ⟨rfl, trivial⟩ fun σ => ?_
                    refine gret fun w1 hM => ?_
                    refine ⟨_, res1 rfl (rt (v := .int _ _) rfl), ?_⟩
                    exact ⟨5, rfl, hM.low, fun h => absurd h (by decide), fun hz => by exfalso; obtain ⟨hz1, hz2⟩ := hz; subst hz2; exact absurd hk1 (Nat.not_lt_zero _)⟩
                  · 
                    replace hc56 := of_decide_eq_false hc56
                    refine gskip ?_
                    refine hN13 _ _ ?_
                    refine gfrom [(0, .slice _ _ _), (1, .int _ _), (2, .slice _ _ _), (7, .pointer _), (31, .slice _ _ _), (32, .int _ _), (33, .int _ _)] ⟨rfl, rfl, rfl, rfl, rfl, rfl, rfl, trivial⟩ fun σ => ?_
                    refine greg ?_
                    refine gop (y_add rfl rfl ⟨by omega, by omega⟩) rfl rfl rfl ?_
                    refine gop (y_move (v := .int _ _) rfl) rfl rfl rfl ?_
                    refine gops_nil ?_
                    refine gnext2 (k + 1) (by omega) (⟨by omega, fun j h hj => by rcases Nat.lt_succ_iff_lt_or_eq.1 hj with h1 | rfl; exact hz j h h1; exact ⟨by omega, by omega⟩⟩) ⟨rfl, trivial⟩ ⟨rfl, rfl, rfl, rfl, rfl, rfl, trivial⟩ ⟨_, rfl⟩
                · 
                  have hg47d := of_decide_eq_false hg47
                  refine gop_off rfl rfl rfl rfl hg47 rfl rfl ?_
                  refine gop_off rfl rfl rfl rfl hg47 rfl rfl ?_
                  refine gop_off rfl rfl rfl rfl hg47 rfl rfl ?_
                  refine gop_off rfl rfl rfl rfl hg47 rfl rfl ?_
                  refine gop_off rfl rfl rfl rfl hg47 rfl rfl ?_
                  refine gop_off rfl rfl rfl rfl hg47 rfl rfl ?_
                  refine gop_off rfl rfl rfl rfl hg47 rfl rfl ?_
                  refine gop (y_pick_f (v := .bool _) rfl hg47 rfl) rfl rfl rfl ?_
                  refine gops_nil ?_
                  refine hN18 _ _ ?_
                  refine gfrom [(0, .slice _ _ _), (1, .int _ _), (2, .slice _ _ _), (7, .pointer _), (31, .slice _ _ _), (32, .int _ _), (33, .int _ _), (56, .bool _)] ⟨rfl, rfl, rfl, rfl, rfl, rfl, rfl, rfl, trivial⟩ fun σ => ?_
                  refine gcond (b := _) rfl (fun hc56 => ?_) (fun hc56 => ?_)
                  · 
                    cases hc56
                  · 
                    refine gskip ?_
                    refine hN13 _ _ ?_
                    refine gfrom [(0, .slice _ _ _), (1, .int _ _), (2, .slice _ _ _), (7, .pointer _), (31, .slice _ _ _), (32, .int _ _), (33, .int _ _)] ⟨rfl, rfl, rfl, rfl, rfl, rfl, rfl, trivial⟩ fun σ => ?_
                    refine greg ?_
                    refine gop (y_add rfl rfl ⟨by omega, by omega⟩) rfl rfl rfl ?_
                    refine gop (y_move (v := .int _ _) rfl) rfl rfl rfl ?_
                    refine gops_nil ?_
                    refine gnext2 (k + 1) (by omega) (⟨by omega, fun j h hj => by rcases Nat.lt_succ_iff_lt_or_eq.1 hj with h1 | rfl; exact hz j h h1; exact ⟨by omega, by omega⟩⟩) ⟨rfl, trivial⟩ ⟨rfl, rfl, rfl, rfl, rfl, rfl, trivial⟩ ⟨_, rfl⟩
            · 
              have hg40d := of_decide_eq_true hg40
              refine gop_off rfl rfl rfl rfl hg40 rfl rfl ?_
              refine gop_off rfl rfl rfl rfl hg40 rfl rfl ?_
              refine gop (y_pick_t (v := .bool _) rfl hg40 rfl) rfl rfl rfl ?_
              refine gops_nil ?_
              refine hN16 _ _ ?_
              refine gfrom [(0, .slice _ _ _), (1, .int _ _), (2, .slice _ _ _), (7, .pointer _), (8, .int _ _), (9, .int _ _), (31, .slice _ _ _), (32, .int _ _), (33, .int _ _), (44, .bool _)] ⟨rfl, rfl, rfl, rfl, rfl, rfl, rfl, rfl, rfl, rfl, trivial⟩ fun σ => ?_
              refine gcond (b := _) rfl (fun hc44 => ?_) (fun hc44 => ?_)
              · 
                refine gseq fun N20 hN20 => ?_
                refine greg ?_
                refine gop (y_assign (v := .int _ _) rfl) rfl rfl rfl ?_
                refine gops_nil ?_
                refine hN20 _ _ ?_
                refine gfrom [(6, .int _ _)] ⟨rfl, trivial⟩ fun σ => ?_
                refine gret fun w1 hM => ?_
                refine ⟨_, res1 rfl (rt (v := .int _ _) rfl), ?_⟩
                exact ⟨3, rfl, hM.low, fun h => absurd h (by decide), fun hz => by exfalso; obtain ⟨hz1, hz2⟩ := hz; subst hz2; exact absurd hk1 (Nat.not_lt_zero _)⟩
              · 
                cases hc44
          · 
            replace hc34 := of_decide_eq_false hc34
            have hall : ∀ n ∈ ins, 0 ≤ n ∧ n < (i : Int) := fun n hn => by obtain ⟨j, hj, rfl⟩ := List.getElem_of_mem hn; exact hz j hj (by omega)
            have hown := hEO.leaves (i := i) hall (by simp [hEl])
            have hol : (leavesP ins (ll E)).length ≤ 30 := by rcases inc_len (inc_of (leavesP_pair ins (ll E))) (b := (i : Int)) (fun n hn => ⟨(hown n hn).1, (hown n hn).2.1⟩) with h9 | h9 <;> first | omega | (rw [h9]; exact Nat.zero_le _)
            refine gexit ?_
            refine hN9 _ _ ?_
            refine gfrom [(0, .slice _ _ _), (2, .slice _ _ _), (7, .pointer _)] ⟨rfl, rfl, rfl, trivial⟩ fun σ => ?_
            refine gseq fun N21 hN21 => ?_
            refine greg ?_
            refine gop (y_loads (cs := [_, _]) Tryd.isAgg30 Tryd.sizeOf30 rfl rfl (cells_box 0 rfl)) rfl rfl rfl ?_
            refine gop (y_move (v := .slice _ _ _) rfl) rfl rfl rfl ?_
            refine gop_got (fun v T' => ∃ lo, w.heap.size ≤ lo ∧ T' = [rowl intCells lo 3 1 (v) (leavesP ins (ll E))]) (e_call (vs := [.agg #[_, _], .slice _ _ _]) Tryd.func9 rfl (by kernel_rfl) rfl) (fun w hM => (leaves_any w kind I ic ins (hI.base hM) A c E (hE.base hM) hEx (fun n hn => by rw [hEl]; exact hall n hn) (by omega) hEO.short).mono fun _ _ ⟨v, T1, h1, h2, h3⟩ => ⟨v, T1, h1, ⟨_, hM.low.size, h2⟩, h3⟩) rfl rfl rfl ?_
            rintro v60 _ ⟨lo60, hlo60, rfl⟩
            refine gops_fact (fun w hM => row_form (hM.ok _ (List.mem_of_getElem? (i := 1) rfl))) ?_
            rintro ⟨A60, c60, rfl, hc60, hm60, hn60⟩
            refine gops_fact (Φ := 0 < (leavesP ins (ll E)).length → ∃ g, A60 = some ⟨g, 0, none⟩) (fun w hM h9 => row_g (hM.ok _ (List.mem_of_getElem? (i := 1) rfl)) h9) ?_
            intro hg60
            refine gop (y_assign (v := .slice A60 _ c60) rfl) rfl rfl rfl ?_
            refine gops_nil ?_
            refine hN21 _ _ ?_
            refine gT [box b7 _, rowl _ _ _ _ _ _] rfl ?_
            refine gfrom [(0, .slice _ _ _), (7, .pointer _), (10, .slice A60 _ c60)] ⟨rfl, rfl, rfl, trivial⟩ fun σ => ?_
            refine gseq fun N22 hN22 => ?_
            refine greg ?_
            refine gop (y_assign (v := .int _ _) rfl) rfl rfl rfl ?_
            refine gops_nil ?_
            refine hN22 _ _ ?_
            refine gfrom [(0, .slice _ _ _), (7, .pointer _), (10, .slice A60 _ c60), (11, .int _ _)] ⟨rfl, rfl, rfl, rfl, trivial⟩ fun σ => ?_
            refine gseq fun N23 hN23 => ?_
            refine gseq fun N24 hN24 => ?_
            refine greg ?_
            refine gop (y_move (v := .slice A60 _ c60) rfl) rfl rfl rfl ?_
            refine gop (y_len Tryd.underlying28 rfl) rfl rfl rfl ?_
            refine gop (y_move (v := .int _ _) rfl) rfl rfl rfl ?_
            refine gops_nil ?_
            refine hN24 _ _ ?_
            refine gfrom [(0, .slice _ _ _), (7, .pointer _), (10, .slice A60 _ c60), (11, .int _ _), (61, .slice A60 _ c60), (62, .int _ _), (63, .int _ _)] ⟨rfl, rfl, rfl, rfl, rfl, rfl, rfl, trivial⟩ fun σ => ?_
            refine gblock ?_
            refine gfrom2 [(11, .int _ _), (63, .int _ _)] [(0, .slice _ _ _), (7, .pointer _), (10, .slice A60 _ c60), (61, .slice A60 _ c60), (62, .int _ _)] ⟨rfl, rfl, trivial⟩ ⟨rfl, rfl, rfl, rfl, rfl, trivial⟩ fun σ => ?_
            refine gloop2 (G := Nat × Nat) (fun (k, many) => k ≤ (leavesP ins (ll E)).length ∧ many ≤ k ∧ (kind = 1 → k = 0)) (fun (k, many) => (leavesP ins (ll E)).length - k) (fun (k, many) => [(11, .int .i64 (many : Int)), (63, .int .i64 (k : Int))]) (fun (k, many) => []) ((0, 0)) ?h0 ⟨rfl, rfl, trivial⟩ ⟨rfl, rfl, rfl, rfl, rfl, trivial⟩ rfl ?round
            case h0 => exact ⟨Nat.zero_le _, Nat.zero_le _, fun _ => rfl⟩
            case round =>
              rintro ⟨k, many⟩ hφ σ
              obtain ⟨hk, hmk, hk0⟩ : k ≤ (leavesP ins (ll E)).length ∧ many ≤ k ∧ (kind = 1 → k = 0) := hφ
              refine gseq fun N25 hN25 => ?_
              refine greg ?_
              refine gop (y_lss rfl rfl) rfl rfl rfl ?_
              refine gops_nil ?_
              refine hN25 _ _ ?_
              refine gfrom [(0, .slice _ _ _), (7, .pointer _), (10, .slice A60 _ c60), (11, .int _ _), (61, .slice A60 _ c60), (62, .int _ _), (63, .int _ _), (64, .bool _)] ⟨rfl, rfl, rfl, rfl, rfl, rfl, rfl, rfl, trivial⟩ fun σ => ?_
              refine gseq fun N26 hN26 => ?_
              refine gcond (b := _) rfl (fun hc64 => ?_) (fun hc64 => ?_)
              · 
                replace hc64 := of_decide_eq_true hc64
                have hk1 : k < (leavesP ins (ll E)).length := by omega
                obtain ⟨g60, rfl⟩ := hg60 (by omega)
                obtain ⟨hx0, hx1, hx2⟩ := hown _ (List.getElem_mem hk1)
                have hxl : (leavesP ins (ll E))[k].toNat < rs.length := by omega
                obtain ⟨ad5, hq5, -, hcx⟩ := hR.rd.at_ hxl
                cases hq5
                refine gskip ?_
                refine hN26 _ _ ?_
                refine gfrom [(0, .slice _ _ _), (7, .pointer _), (10, .slice (some ⟨g60, 0, none⟩) _ c60), (11, .int _ _), (61, .slice (some ⟨g60, 0, none⟩) _ c60), (62, .int _ _), (63, .int _ _)] ⟨rfl, rfl, rfl, rfl, rfl, rfl, rfl, trivial⟩ fun σ => ?_
                refine gseq fun N27 hN27 => ?_
                refine gblock ?_
                refine gseq fun N28 hN28 => ?_
                refine greg ?_
                refine gop (y_indexAddr (m := k) Tryd.underlying28 Tryd.sizeOf3 rfl rfl (by omega) (by omega) (by omega)) rfl rfl rfl ?_
                refine gop (y_load Tryd.isAgg3 rfl (cells_rowl 1 (f := intCells) (l := leavesP ins (ll E)) rfl rfl (fun _ => rfl) (List.getElem?_eq_getElem hk1) 0 _ rfl)) rfl rfl rfl ?_
                refine gop (y_assign (v := .int _ _) rfl) rfl rfl rfl ?_
                refine gops_nil ?_
                refine hN28 _ _ ?_
                refine gfrom [(0, .slice _ _ _), (7, .pointer _), (10, .slice (some ⟨g60, 0, none⟩) _ c60), (11, .int _ _), (13, .int _ _), (61, .slice (some ⟨g60, 0, none⟩) _ c60), (62, .int _ _), (63, .int _ _)] ⟨rfl, rfl, rfl, rfl, rfl, rfl, rfl, rfl, trivial⟩ fun σ => ?_
                refine gseq fun N29 hN29 => ?_
                refine gseq fun N30 hN30 => ?_
                refine greg_q (by kernel_rfl) (by kernel_rfl) ?_
                refine gq (y_fieldAddr_box fa30_0 rfl) rfl rfl rfl ?_
                refine gq (y_load Tryd.isAgg3 rfl (cell_box 0 rfl rfl)) rfl rfl rfl ?_
                refine gq (y_indexAddr_arr (m := kind.toNat) Tryd.underlying52 Tryd.sizeOf28 rfl rfl rfl (by omega) (by omega)) rfl rfl rfl ?_
                refine gq (y_load Tryd.isAgg28 rfl (cell_base (cell_glob (hcp 0 _ rfl)))) rfl rfl rfl ?_
                refine gq (y_move (v := .slice _ _ _) rfl) rfl rfl rfl ?_
                refine gq (y_move (v := .int _ _) rfl) rfl rfl rfl ?_
                refine gq (y_indexAddr (m := (leavesP ins (ll E))[k].toNat) Tryd.underlying22 Tryd.sizeOf30 rfl rfl (by omega) (by omega) (by omega)) rfl rfl rfl ?_
                refine gq (y_fieldAddr_add fa30_0 rfl) rfl rfl rfl ?_
                refine gq (y_load Tryd.isAgg3 rfl (cell_base (hcx 0 _ rfl))) rfl rfl rfl ?_
                refine gq_pure (e_call (vs := [.slice _ _ _, .int _ _]) Tryd.func20 rfl (by kernel_rfl) rfl) (fun w hM => containsI_any w _ PL[kind.toNat].c PL[kind.toNat].l (hPR.base hM) (by omega) _) rfl rfl rfl ?_
                refine gq (y_not rfl) rfl rfl rfl ?_
                refine gqs_nil ?_
                refine hN30 _ _ ?_
                refine gfrom [(0, .slice _ _ _), (7, .pointer _), (10, .slice (some ⟨g60, 0, none⟩) _ c60), (11, .int _ _), (13, .int _ _), (61, .slice (some ⟨g60, 0, none⟩) _ c60), (62, .int _ _), (63, .int _ _), (77, .bool _)] ⟨rfl, rfl, rfl, rfl, rfl, rfl, rfl, rfl, rfl, trivial⟩ fun σ => ?_
                refine gcond (b := _) rfl (fun hc77 => ?_) (fun hc77 => ?_)
                · 
                  replace hc77 := not_t hc77
                  refine gseq fun N31 hN31 => ?_
                  refine greg ?_
                  refine gop (y_assign (v := .int _ _) rfl) rfl rfl rfl ?_
                  refine gops_nil ?_
                  refine hN31 _ _ ?_
                  refine gfrom [(6, .int _ _)] ⟨rfl, trivial⟩ fun σ => ?_
                  refine gret fun w1 hM => ?_
                  refine ⟨_, res1 rfl (rt (v := .int _ _) rfl), ?_⟩
                  exact ⟨8, rfl, hM.low, fun h => absurd h (by decide), fun hz => by exfalso; obtain ⟨hz1, hz2⟩ := hz; subst hz2; obtain ⟨n, hn, _⟩ := leavesP_mem (List.getElem_mem hk1); cases hn⟩
                · 
                  replace hc77 := not_f hc77
                  refine gskip ?_
                  refine hN29 _ _ ?_
                  refine gfrom [(0, .slice _ _ _), (7, .pointer _), (10, .slice (some ⟨g60, 0, none⟩) _ c60), (11, .int _ _), (13, .int _ _), (61, .slice (some ⟨g60, 0, none⟩) _ c60), (62, .int _ _), (63, .int _ _)] ⟨rfl, rfl, rfl, rfl, rfl, rfl, rfl, rfl, trivial⟩ fun σ => ?_
                  refine gseq fun N32 hN32 => ?_
                  refine greg_q (by kernel_rfl) (by kernel_rfl) ?_
                  refine gq (y_move (v := .slice _ _ _) rfl) rfl rfl rfl ?_
                  refine gq (y_move (v := .int _ _) rfl) rfl rfl rfl ?_
                  refine gq (y_indexAddr (m := (leavesP ins (ll E))[k].toNat) Tryd.underlying22 Tryd.sizeOf30 rfl rfl (by omega) (by omega) (by omega)) rfl rfl rfl ?_
                  refine gq (y_fieldAddr_add fa30_0 rfl) rfl rfl rfl ?_
                  refine gq (y_load Tryd.isAgg3 rfl (cell_base (hcx 0 _ rfl))) rfl rfl rfl ?_
                  refine gq (y_fieldAddr_box fa30_0 rfl) rfl rfl rfl ?_
                  refine gq (y_load Tryd.isAgg3 rfl (cell_box 0 rfl rfl)) rfl rfl rfl ?_
                  refine gq (y_indexAddr_arr (m := kind.toNat) Tryd.underlying53 Tryd.sizeOf3 rfl rfl rfl (by omega) (by omega)) rfl rfl rfl ?_
                  refine gq (y_load Tryd.isAgg3 rfl (cell_base (cell_glob (hcq 0 _ rfl)))) rfl rfl rfl ?_
                  refine gq (y_eql rfl rfl) rfl rfl rfl ?_
                  refine gqs_nil ?_
                  refine hN32 _ _ ?_
                  refine gfrom [(0, .slice _ _ _), (7, .pointer _), (10, .slice (some ⟨g60, 0, none⟩) _ c60), (11, .int _ _), (61, .slice (some ⟨g60, 0, none⟩) _ c60), (62, .int _ _), (63, .int _ _), (87, .bool _)] ⟨rfl, rfl, rfl, rfl, rfl, rfl, rfl, rfl, trivial⟩ fun σ => ?_
                  refine gcond (b := _) rfl (fun hc87 => ?_) (fun hc87 => ?_)
                  · 
                    replace hc87 := of_decide_eq_true hc87
                    refine greg ?_
                    refine gop (y_move (v := .int _ _) rfl) rfl rfl rfl ?_
                    refine gop (y_add rfl rfl ⟨by omega, by omega⟩) rfl rfl rfl ?_
                    refine gop (y_assign (v := .int _ _) rfl) rfl rfl rfl ?_
                    refine gops_nil ?_
                    refine hN27 _ _ ?_
                    refine gfrom [(0, .slice _ _ _), (7, .pointer _), (10, .slice (some ⟨g60, 0, none⟩) _ c60), (11, .int _ _), (61, .slice (some ⟨g60, 0, none⟩) _ c60), (62, .int _ _), (63, .int _ _)] ⟨rfl, rfl, rfl, rfl, rfl, rfl, rfl, trivial⟩ fun σ => ?_
                    refine greg ?_
                    refine gop (y_add rfl rfl ⟨by omega, by omega⟩) rfl rfl rfl ?_
                    refine gop (y_move (v := .int _ _) rfl) rfl rfl rfl ?_
                    refine gops_nil ?_
                    refine gnext2 ((k + 1, many + 1)) (by show (leavesP ins (ll E)).length - (k + 1) < (leavesP ins (ll E)).length - k; omega) (⟨by show k + 1 ≤ _; omega, by show many + 1 ≤ k + 1; omega, fun h9 => absurd hc77 (hpA.2 h9 _)⟩) ⟨rfl, rfl, trivial⟩ ⟨rfl, rfl, rfl, rfl, rfl, trivial⟩ ⟨_, rfl⟩
                  · 
                    replace hc87 := of_decide_eq_false hc87
                    refine gskip ?_
                    refine hN27 _ _ ?_
                    refine gfrom [(0, .slice _ _ _), (7, .pointer _), (10, .slice (some ⟨g60, 0, none⟩) _ c60), (11, .int _ _), (61, .slice (some ⟨g60, 0, none⟩) _ c60), (62, .int _ _), (63, .int _ _)] ⟨rfl, rfl, rfl, rfl, rfl, rfl, rfl, trivial⟩ fun σ => ?_
                    refine greg ?_
                    refine gop (y_add rfl rfl ⟨by omega, by omega⟩) rfl rfl rfl ?_
                    refine gop (y_move (v := .int _ _) rfl) rfl rfl rfl ?_
                    refine gops_nil ?_
                    refine gnext2 ((k + 1, many)) (by show (leavesP ins (ll E)).length - (k + 1) < (leavesP ins (ll E)).length - k; omega) (⟨by show k + 1 ≤ _; omega, by show many ≤ k + 1; omega, fun h9 => absurd hc77 (hpA.2 h9 _)⟩) ⟨rfl, rfl, trivial⟩ ⟨rfl, rfl, rfl, rfl, rfl, trivial⟩ ⟨_, rfl⟩
              · 
                replace hc64 := of_decide_eq_false hc64
                refine gexit ?_
                refine hN23 _ _ ?_
                refine gfrom [(7, .pointer _), (10, .slice A60 _ c60), (11, .int _ _)] ⟨rfl, rfl, rfl, trivial⟩ fun σ => ?_
                refine gseq fun N33 hN33 => ?_
                refine gseq fun N34 hN34 => ?_
                refine greg ?_
                refine gop (y_fieldAddr_box fa30_0 rfl) rfl rfl rfl ?_
                refine gop (y_load Tryd.isAgg3 rfl (cell_box 0 rfl rfl)) rfl rfl rfl ?_
                refine gop (y_indexAddr_arr (m := kind.toNat) Tryd.underlying53 Tryd.sizeOf3 rfl rfl rfl (by omega) (by omega)) rfl rfl rfl ?_
                refine gop (y_load Tryd.isAgg3 rfl (cell_base (cell_glob (hcq 0 _ rfl)))) rfl rfl rfl ?_
                refine gop (y_neq rfl rfl) rfl rfl rfl ?_
                refine gop (y_move (v := .bool _) rfl) rfl rfl rfl ?_
                refine gop_if (want := true) rfl rfl rfl rfl rfl rfl (fun hg96 => ?_) (fun hg96 => ?_)
                · 
                  have hg96d := of_decide_eq_true hg96
                  refine gop (y_bare (y_move (v := .int _ _) rfl)) rfl rfl rfl ?_
                  refine gop_on rfl rfl rfl rfl hg96 ?_
                  refine gop (y_bare (y_eql rfl rfl)) rfl rfl rfl ?_
                  refine gop (y_pick_t (v := .bool _) rfl hg96 rfl) rfl rfl rfl ?_
                  refine gop (y_move (v := .bool _) rfl) rfl rfl rfl ?_
                  refine gop_if (want := false) rfl rfl rfl rfl rfl rfl (fun hg100 => ?_) (fun hg100 => ?_)
                  · 
                    have hg100d := of_decide_eq_false hg100
                    refine gop (y_bare (y_fieldAddr_box fa30_0 rfl)) rfl rfl rfl ?_
                    refine gop_on rfl rfl rfl rfl hg100 ?_
                    refine gop (y_bare (y_load Tryd.isAgg3 rfl (cell_box 0 rfl rfl))) rfl rfl rfl ?_
                    refine gop_on rfl rfl rfl rfl hg100 ?_
                    refine gop (y_bare (y_eql rfl rfl)) rfl rfl rfl ?_
                    refine gop_on rfl rfl rfl rfl hg100 ?_
                    refine gop (y_bare (y_move (v := .bool _) rfl)) rfl rfl rfl ?_
                    refine gop_if (want := true) rfl rfl rfl rfl rfl rfl (fun hg104 => ?_) (fun hg104 => ?_)
                    · 
                      have hg104d := of_decide_eq_true hg104
                      refine gop (y_bare (y_move (v := .slice A60 _ c60) rfl)) rfl rfl rfl ?_
                      refine gop_on rfl rfl rfl rfl hg104 ?_
                      refine gop (y_bare (y_len Tryd.underlying28 rfl)) rfl rfl rfl ?_
                      refine gop_on rfl rfl rfl rfl hg104 ?_
                      refine gop (y_bare (y_neq rfl rfl)) rfl rfl rfl ?_
                      refine gop_on rfl rfl rfl rfl hg100 ?_
                      refine gop (y_bare (y_pick_t (v := .bool _) rfl hg104 rfl)) rfl rfl rfl ?_
                      refine gop (y_pick_f (v := .bool _) rfl hg100 rfl) rfl rfl rfl ?_
                      refine gop (y_move (v := .bool _) rfl) rfl rfl rfl ?_
                      refine gop_if (want := false) rfl rfl rfl rfl rfl rfl (fun hg110 => ?_) (fun hg110 => ?_)
                      · 
                        have hg110d := Decidable.not_not.1 (of_decide_eq_false hg110)
                        refine gop (y_bare (y_fieldAddr_box fa30_0 rfl)) rfl rfl rfl ?_
                        refine gop_on rfl rfl rfl rfl hg110 ?_
                        refine gop (y_bare (y_load Tryd.isAgg3 rfl (cell_box 0 rfl rfl))) rfl rfl rfl ?_
                        refine gop_on rfl rfl rfl rfl hg110 ?_
                        refine gop (y_bare (y_eql rfl rfl)) rfl rfl rfl ?_
                        refine gop_on rfl rfl rfl rfl hg110 ?_
                        refine gop (y_bare (y_move (v := .bool _) rfl)) rfl rfl rfl ?_
                        refine gop_if (want := true) rfl rfl rfl rfl rfl rfl (fun hg114 => ?_) (fun hg114 => ?_)
                        · 
                          have hg114d := of_decide_eq_true hg114
                          refine gop (y_bare (y_fieldAddr_box fa30_1 rfl)) rfl rfl rfl ?_
                          refine gop_on rfl rfl rfl rfl hg114 ?_
                          refine gop (y_bare (y_load Tryd.isAgg28 rfl (cell_box 0 rfl rfl))) rfl rfl rfl ?_
                          refine gop_on rfl rfl rfl rfl hg114 ?_
                          refine gop (y_bare (y_len Tryd.underlying28 rfl)) rfl rfl rfl ?_
                          refine gop_on rfl rfl rfl rfl hg114 ?_
                          refine gop (y_bare (y_eql rfl rfl)) rfl rfl rfl ?_
                          refine gop_on rfl rfl rfl rfl hg110 ?_
                          refine gop (y_bare (y_pick_t (v := .bool _) rfl hg114 rfl)) rfl rfl rfl ?_
                          refine gop (y_pick_f (v := .bool _) rfl hg110 rfl) rfl rfl rfl ?_
                          refine gops_nil ?_
                          refine hN34 _ _ ?_
                          refine gfrom [(120, .bool _)] ⟨rfl, trivial⟩ fun σ => ?_
                          refine gcond (b := _) rfl (fun hc120 => ?_) (fun hc120 => ?_)
                          · 
                            replace hc120 := of_decide_eq_true hc120
                            refine gseq fun N35 hN35 => ?_
                            refine greg ?_
                            refine gop (y_assign (v := .int _ _) rfl) rfl rfl rfl ?_
                            refine gops_nil ?_
                            refine hN35 _ _ ?_
                            refine gfrom [(6, .int _ _)] ⟨rfl, trivial⟩ fun σ => ?_
                            refine gret fun w1 hM => ?_
                            refine ⟨_, res1 rfl (rt (v := .int _ _) rfl), ?_⟩
                            exact ⟨9, rfl, hM.low, fun h => absurd h (by decide), fun hz => by exfalso; obtain ⟨hz1, hz2⟩ := hz; omega⟩
                          · 
                            replace hc120 := of_decide_eq_false hc120
                            refine gskip ?_
                            refine hN33 _ _ ?_
                            refine gfrom [] trivial fun σ => ?_
                            refine gseq fun N36 hN36 => ?_
                            refine greg ?_
                            refine gop (y_assign (v := .int _ _) rfl) rfl rfl rfl ?_
                            refine gops_nil ?_
                            refine hN36 _ _ ?_
                            refine gfrom [(6, .int _ _)] ⟨rfl, trivial⟩ fun σ => ?_
                            refine gret fun w1 hM => ?_
                            refine ⟨_, res1 rfl (rt (v := .int _ _) rfl), ?_⟩
                            have hke : k = (leavesP ins (ll E)).length := by omega
                            exact ⟨0, rfl, hM.low, fun _ => ⟨hkd.1, hkd.2, (show ins.length ≤ 8 by omega), hall, fun h1 => List.length_eq_zero_iff.1 (show (leavesP ins (ll E)).length = 0 by have h9 := hk0 h1; omega), fun h1 h2 h3 => by have h9 : (leavesP ins (ll E)).length = 0 := congrArg List.length h3; have h8 := hrq.2 h1 h2; omega⟩, fun _ => rfl⟩
                        · 
                          have hg114d := of_decide_eq_false hg114
                          refine gop_off rfl rfl rfl rfl hg114 rfl rfl ?_
                          refine gop_off rfl rfl rfl rfl hg114 rfl rfl ?_
                          refine gop_off rfl rfl rfl rfl hg114 rfl rfl ?_
                          refine gop_on rfl rfl rfl rfl hg110 ?_
                          refine gop (y_bare (y_pick_f (v := .bool _) rfl hg114 rfl)) rfl rfl rfl ?_
                          refine gop (y_pick_f (v := .bool _) rfl hg110 rfl) rfl rfl rfl ?_
                          refine gops_nil ?_
                          refine hN34 _ _ ?_
                          refine gfrom [(120, .bool _)] ⟨rfl, trivial⟩ fun σ => ?_
                          refine gcond (b := _) rfl (fun hc120 => ?_) (fun hc120 => ?_)
                          · 
                            cases hc120
                          · 
                            refine gskip ?_
                            refine hN33 _ _ ?_
                            refine gfrom [] trivial fun σ => ?_
                            refine gseq fun N37 hN37 => ?_
                            refine greg ?_
                            refine gop (y_assign (v := .int _ _) rfl) rfl rfl rfl ?_
                            refine gops_nil ?_
                            refine hN37 _ _ ?_
                            refine gfrom [(6, .int _ _)] ⟨rfl, trivial⟩ fun σ => ?_
                            refine gret fun w1 hM => ?_
                            refine ⟨_, res1 rfl (rt (v := .int _ _) rfl), ?_⟩
                            have hke : k = (leavesP ins (ll E)).length := by omega
                            exact ⟨0, rfl, hM.low, fun _ => ⟨hkd.1, hkd.2, (show ins.length ≤ 8 by omega), hall, fun h1 => List.length_eq_zero_iff.1 (show (leavesP ins (ll E)).length = 0 by have h9 := hk0 h1; omega), fun h1 h2 h3 => by have h9 : (leavesP ins (ll E)).length = 0 := congrArg List.length h3; have h8 := hrq.2 h1 h2; omega⟩, fun _ => rfl⟩
                      · 
                        have hg110d := of_decide_eq_true hg110
                        refine gop_off rfl rfl rfl rfl hg110 rfl rfl ?_
                        refine gop_off rfl rfl rfl rfl hg110 rfl rfl ?_
                        refine gop_off rfl rfl rfl rfl hg110 rfl rfl ?_
                        refine gop_offu rfl rfl rfl rfl rfl rfl ?_
                        refine gop_offu rfl rfl rfl rfl rfl rfl ?_
                        refine gop_offu rfl rfl rfl rfl rfl rfl ?_
                        refine gop_offu rfl rfl rfl rfl rfl rfl ?_
                        refine gop_off rfl rfl rfl rfl hg110 rfl rfl ?_
                        refine gop (y_pick_t (v := .bool _) rfl hg110 rfl) rfl rfl rfl ?_
                        refine gops_nil ?_
                        refine hN34 _ _ ?_
                        refine gfrom [(120, .bool _)] ⟨rfl, trivial⟩ fun σ => ?_
                        refine gcond (b := _) rfl (fun hc120 => ?_) (fun hc120 => ?_)
                        · 
                          refine gseq fun N38 hN38 => ?_
                          refine greg ?_
                          refine gop (y_assign (v := .int _ _) rfl) rfl rfl rfl ?_
                          refine gops_nil ?_
                          refine hN38 _ _ ?_
                          refine gfrom [(6, .int _ _)] ⟨rfl, trivial⟩ fun σ => ?_
                          refine gret fun w1 hM => ?_
                          refine ⟨_, res1 rfl (rt (v := .int _ _) rfl), ?_⟩
                          exact ⟨9, rfl, hM.low, fun h => absurd h (by decide), fun hz => by exfalso; obtain ⟨hz1, hz2⟩ := hz; omega⟩
                        · 
                          cases hc120
                    · 
                      have hg104d := of_decide_eq_false hg104
                      refine gop_off rfl rfl rfl rfl hg104 rfl rfl ?_
                      refine gop_off rfl rfl rfl rfl hg104 rfl rfl ?_
                      refine gop_on rfl rfl rfl rfl hg100 ?_
                      refine gop (y_bare (y_pick_f (v := .bool _) rfl hg104 rfl)) rfl rfl rfl ?_
                      refine gop (y_pick_f (v := .bool _) rfl hg100 rfl) rfl rfl rfl ?_
                      refine gop (y_move (v := .bool _) rfl) rfl rfl rfl ?_
                      refine gop_on rfl rfl rfl rfl rfl ?_
                      refine gop (y_bare (y_fieldAddr_box fa30_0 rfl)) rfl rfl rfl ?_
                      refine gop_on rfl rfl rfl rfl rfl ?_
                      refine gop (y_bare (y_load Tryd.isAgg3 rfl (cell_box 0 rfl rfl))) rfl rfl rfl ?_
                      refine gop_on rfl rfl rfl rfl rfl ?_
                      refine gop (y_bare (y_eql rfl rfl)) rfl rfl rfl ?_
                      refine gop_on rfl rfl rfl rfl rfl ?_
                      refine gop (y_bare (y_move (v := .bool _) rfl)) rfl rfl rfl ?_
                      refine gop_if (want := true) rfl rfl rfl rfl rfl rfl (fun hg114 => ?_) (fun hg114 => ?_)
                      · 
                        have hg114d := of_decide_eq_true hg114
                        refine gop (y_bare (y_fieldAddr_box fa30_1 rfl)) rfl rfl rfl ?_
                        refine gop_on rfl rfl rfl rfl hg114 ?_
                        refine gop (y_bare (y_load Tryd.isAgg28 rfl (cell_box 0 rfl rfl))) rfl rfl rfl ?_
                        refine gop_on rfl rfl rfl rfl hg114 ?_
                        refine gop (y_bare (y_len Tryd.underlying28 rfl)) rfl rfl rfl ?_
                        refine gop_on rfl rfl rfl rfl hg114 ?_
                        refine gop (y_bare (y_eql rfl rfl)) rfl rfl rfl ?_
                        refine gop_on rfl rfl rfl rfl rfl ?_
                        refine gop (y_bare (y_pick_t (v := .bool _) rfl hg114 rfl)) rfl rfl rfl ?_
                        refine gop (y_pick_f (v := .bool _) rfl rfl rfl) rfl rfl rfl ?_
                        refine gops_nil ?_
                        refine hN34 _ _ ?_
                        refine gfrom [(120, .bool _)] ⟨rfl, trivial⟩ fun σ => ?_
                        refine gcond (b := _) rfl (fun hc120 => ?_) (fun hc120 => ?_)
                        · 
                          replace hc120 := of_decide_eq_true hc120
                          refine gseq fun N39 hN39 => ?_
                          refine greg ?_
                          refine gop (y_assign (v := .int _ _) rfl) rfl rfl rfl ?_
                          refine gops_nil ?_
                          refine hN39 _ _ ?_
                          refine gfrom [(6, .int _ _)] ⟨rfl, trivial⟩ fun σ => ?_
                          refine gret fun w1 hM => ?_
                          refine ⟨_, res1 rfl (rt (v := .int _ _) rfl), ?_⟩
                          exact ⟨9, rfl, hM.low, fun h => absurd h (by decide), fun hz => by exfalso; obtain ⟨hz1, hz2⟩ := hz; omega⟩
                        · 
                          replace hc120 := of_decide_eq_false hc120
                          refine gskip ?_
                          refine hN33 _ _ ?_
                          refine gfrom [] trivial fun σ => ?_
                          refine gseq fun N40 hN40 => ?_
                          refine greg ?_
                          refine gop (y_assign (v := .int _ _) rfl) rfl rfl rfl ?_
                          refine gops_nil ?_
                          refine hN40 _ _ ?_
                          refine gfrom [(6, .int _ _)] ⟨rfl, trivial⟩ fun σ => ?_
                          refine gret fun w1 hM => ?_
                          refine ⟨_, res1 rfl (rt (v := .int _ _) rfl), ?_⟩
                          have hke : k = (leavesP ins (ll E)).length := by omega
                          exact ⟨0, rfl, hM.low, fun _ => ⟨hkd.1, hkd.2, (show ins.length ≤ 8 by omega), hall, fun h1 => List.length_eq_zero_iff.1 (show (leavesP ins (ll E)).length = 0 by have h9 := hk0 h1; omega), fun h1 h2 h3 => by have h9 : (leavesP ins (ll E)).length = 0 := congrArg List.length h3; have h8 := hrq.2 h1 h2; omega⟩, fun _ => rfl⟩
                      · 
                        have hg114d := of_decide_eq_false hg114
                        refine gop_off rfl rfl rfl rfl hg114 rfl rfl ?_
                        refine gop_off rfl rfl rfl rfl hg114 rfl rfl ?_
                        refine gop_off rfl rfl rfl rfl hg114 rfl rfl ?_
                        refine gop_on rfl rfl rfl rfl rfl ?_
                        refine gop (y_bare (y_pick_f (v := .bool _) rfl hg114 rfl)) rfl rfl rfl ?_
                        refine gop (y_pick_f (v := .bool _) rfl rfl rfl) rfl rfl rfl ?_
                        refine gops_nil ?_
                        refine hN34 _ _ ?_
                        refine gfrom [(120, .bool _)] ⟨rfl, trivial⟩ fun σ => ?_
                        refine gcond (b := _) rfl (fun hc120 => ?_) (fun hc120 => ?_)
                        · 
                          cases hc120
                        · 
                          refine gskip ?_
                          refine hN33 _ _ ?_
                          refine gfrom [] trivial fun σ => ?_
                          refine gseq fun N41 hN41 => ?_
                          refine greg ?_
                          refine gop (y_assign (v := .int _ _) rfl) rfl rfl rfl ?_
                          refine gops_nil ?_
                          refine hN41 _ _ ?_
                          refine gfrom [(6, .int _ _)] ⟨rfl, trivial⟩ fun σ => ?_
                          refine gret fun w1 hM => ?_
                          refine ⟨_, res1 rfl (rt (v := .int _ _) rfl), ?_⟩
                          have hke : k = (leavesP ins (ll E)).length := by omega
                          exact ⟨0, rfl, hM.low, fun _ => ⟨hkd.1, hkd.2, (show ins.length ≤ 8 by omega), hall, fun h1 => List.length_eq_zero_iff.1 (show (leavesP ins (ll E)).length = 0 by have h9 := hk0 h1; omega), fun h1 h2 h3 => by have h9 : (leavesP ins (ll E)).length = 0 := congrArg List.length h3; have h8 := hrq.2 h1 h2; omega⟩, fun _ => rfl⟩
                  · 
                    have hg100d := of_decide_eq_true hg100
                    refine gop_off rfl rfl rfl rfl hg100 rfl rfl ?_
                    refine gop_off rfl rfl rfl rfl hg100 rfl rfl ?_
                    refine gop_off rfl rfl rfl rfl hg100 rfl rfl ?_
                    refine gop_offu rfl rfl rfl rfl rfl rfl ?_
                    refine gop_offu rfl rfl rfl rfl rfl rfl ?_
                    refine gop_offu rfl rfl rfl rfl rfl rfl ?_
                    refine gop_off rfl rfl rfl rfl hg100 rfl rfl ?_
                    refine gop (y_pick_t (v := .bool _) rfl hg100 rfl) rfl rfl rfl ?_
                    refine gop (y_move (v := .bool _) rfl) rfl rfl rfl ?_
                    refine gop_off rfl rfl rfl rfl rfl rfl rfl ?_
                    refine gop_off rfl rfl rfl rfl rfl rfl rfl ?_
                    refine gop_off rfl rfl rfl rfl rfl rfl rfl ?_
                    refine gop_off rfl rfl rfl rfl rfl rfl rfl ?_
                    refine gop_offu rfl rfl rfl rfl rfl rfl ?_
                    refine gop_offu rfl rfl rfl rfl rfl rfl ?_
                    refine gop_offu rfl rfl rfl rfl rfl rfl ?_
                    refine gop_offu rfl rfl rfl rfl rfl rfl ?_
                    refine gop_off rfl rfl rfl rfl rfl rfl rfl ?_
                    refine gop (y_pick_t (v := .bool _) rfl rfl rfl) rfl rfl rfl ?_
                    refine gops_nil ?_
                    refine hN34 _ _ ?_
                    refine gfrom [(120, .bool _)] ⟨rfl, trivial⟩ fun σ => ?_
                    refine gcond (b := _) rfl (fun hc120 => ?_) (fun hc120 => ?_)
                    · 
                      refine gseq fun N42 hN42 => ?_
                      refine greg ?_
                      refine gop (y_assign (v := .int _ _) rfl) rfl rfl rfl ?_
                      refine gops_nil ?_
                      refine hN42 _ _ ?_
                      refine gfrom [(6, .int _ _)] ⟨rfl, trivial⟩ fun σ => ?_
                      refine gret fun w1 hM => ?_
                      refine ⟨_, res1 rfl (rt (v := .int _ _) rfl), ?_⟩
                      exact ⟨9, rfl, hM.low, fun h => absurd h (by decide), fun hz => by exfalso; obtain ⟨hz1, hz2⟩ := hz; omega⟩
                    · 
                      cases hc120
                · 
                  have hg96d := Decidable.not_not.1 (of_decide_eq_false hg96)
                  refine gop_off rfl rfl rfl rfl hg96 rfl rfl ?_
                  refine gop (y_pick_f (v := .bool _) rfl hg96 rfl) rfl rfl rfl ?_
                  refine gop (y_move (v := .bool _) rfl) rfl rfl rfl ?_
                  refine gop_on rfl rfl rfl rfl rfl ?_
                  refine gop (y_bare (y_fieldAddr_box fa30_0 rfl)) rfl rfl rfl ?_
                  refine gop_on rfl rfl rfl rfl rfl ?_
                  refine gop (y_bare (y_load Tryd.isAgg3 rfl (cell_box 0 rfl rfl))) rfl rfl rfl ?_
                  refine gop_on rfl rfl rfl rfl rfl ?_
                  refine gop (y_bare (y_eql rfl rfl)) rfl rfl rfl ?_
                  refine gop_on rfl rfl rfl rfl rfl ?_
                  refine gop (y_bare (y_move (v := .bool _) rfl)) rfl rfl rfl ?_
                  refine gop_if (want := true) rfl rfl rfl rfl rfl rfl (fun hg104 => ?_) (fun hg104 => ?_)
                  · 
                    have hg104d := of_decide_eq_true hg104
                    refine gop (y_bare (y_move (v := .slice A60 _ c60) rfl)) rfl rfl rfl ?_
                    refine gop_on rfl rfl rfl rfl hg104 ?_
                    refine gop (y_bare (y_len Tryd.underlying28 rfl)) rfl rfl rfl ?_
                    refine gop_on rfl rfl rfl rfl hg104 ?_
                    refine gop (y_bare (y_neq rfl rfl)) rfl rfl rfl ?_
                    refine gop_on rfl rfl rfl rfl rfl ?_
                    refine gop (y_bare (y_pick_t (v := .bool _) rfl hg104 rfl)) rfl rfl rfl ?_
                    refine gop (y_pick_f (v := .bool _) rfl rfl rfl) rfl rfl rfl ?_
                    refine gop (y_move (v := .bool _) rfl) rfl rfl rfl ?_
                    refine gop_if (want := false) rfl rfl rfl rfl rfl rfl (fun hg110 => ?_) (fun hg110 => ?_)
                    · 
                      have hg110d := Decidable.not_not.1 (of_decide_eq_false hg110)
                      refine gop (y_bare (y_fieldAddr_box fa30_0 rfl)) rfl rfl rfl ?_
                      refine gop_on rfl rfl rfl rfl hg110 ?_
                      refine gop (y_bare (y_load Tryd.isAgg3 rfl (cell_box 0 rfl rfl))) rfl rfl rfl ?_
                      refine gop_on rfl rfl rfl rfl hg110 ?_
                      refine gop (y_bare (y_eql rfl rfl)) rfl rfl rfl ?_
                      refine gop_on rfl rfl rfl rfl hg110 ?_
                      refine gop (y_bare (y_move (v := .bool _) rfl)) rfl rfl rfl ?_
                      refine gop_if (want := true) rfl rfl rfl rfl rfl rfl (fun hg114 => ?_) (fun hg114 => ?_)
                      · 
                        have hg114d := of_decide_eq_true hg114
                        refine gop (y_bare (y_fieldAddr_box fa30_1 rfl)) rfl rfl rfl ?_
                        refine gop_on rfl rfl rfl rfl hg114 ?_
                        refine gop (y_bare (y_load Tryd.isAgg28 rfl (cell_box 0 rfl rfl))) rfl rfl rfl ?_
                        refine gop_on rfl rfl rfl rfl hg114 ?_
                        refine gop (y_bare (y_len Tryd.underlying28 rfl)) rfl rfl rfl ?_
                        refine gop_on rfl rfl rfl rfl hg114 ?_
                        refine gop (y_bare (y_eql rfl rfl)) rfl rfl rfl ?_
                        refine gop_on rfl rfl rfl rfl hg110 ?_
                        refine gop (y_bare (y_pick_t (v := .bool _) rfl hg114 rfl)) rfl rfl rfl ?_
                        refine gop (y_pick_f (v := .bool _) rfl hg110 rfl) rfl rfl rfl ?_
                        refine gops_nil ?_
                        refine hN34 _ _ ?_
                        refine gfrom [(120, .bool _)] ⟨rfl, trivial⟩ fun σ => ?_
                        refine gcond (b := _) rfl (fun hc120 => ?_) (fun hc120 => ?_)
                        · 
                          replace hc120 := of_decide_eq_true hc120
                          refine gseq fun N43 hN43 => ?_
                          refine greg ?_
                          refine gop (y_assign (v := .int _ _) rfl) rfl rfl rfl ?_
                          refine gops_nil ?_
                          refine hN43 _ _ ?_
                          refine gfrom [(6, .int _ _)] ⟨rfl, trivial⟩ fun σ => ?_
                          refine gret fun w1 hM => ?_
                          refine ⟨_, res1 rfl (rt (v := .int _ _) rfl), ?_⟩
                          exact ⟨9, rfl, hM.low, fun h => absurd h (by decide), fun hz => by exfalso; obtain ⟨hz1, hz2⟩ := hz; omega⟩
                        · 
                          replace hc120 := of_decide_eq_false hc120
                          refine gskip ?_
                          refine hN33 _ _ ?_
                          refine gfrom [] trivial fun σ => ?_
                          refine gseq fun N44 hN44 => ?_
                          refine greg ?_
                          refine gop (y_assign (v := .int _ _) rfl) rfl rfl rfl ?_
                          refine gops_nil ?_
                          refine hN44 _ _ ?_
                          refine gfrom [(6, .int _ _)] ⟨rfl, trivial⟩ fun σ => ?_
                          refine gret fun w1 hM => ?_
                          refine ⟨_, res1 rfl (rt (v := .int _ _) rfl), ?_⟩
                          have hke : k = (leavesP ins (ll E)).length := by omega
                          exact ⟨0, rfl, hM.low, fun _ => ⟨hkd.1, hkd.2, (show ins.length ≤ 8 by omega), hall, fun h1 => List.length_eq_zero_iff.1 (show (leavesP ins (ll E)).length = 0 by have h9 := hk0 h1; omega), fun h1 h2 h3 => by have h9 : (leavesP ins (ll E)).length = 0 := congrArg List.length h3; have h8 := hrq.2 h1 h2; omega⟩, fun _ => rfl⟩
                      · 
                        have hg114d := of_decide_eq_false hg114
                        refine gop_off rfl rfl rfl rfl hg114 rfl rfl ?_
                        refine gop_off rfl rfl rfl rfl hg114 rfl rfl ?_
                        refine gop_off rfl rfl rfl rfl hg114 rfl rfl ?_
                        refine gop_on rfl rfl rfl rfl hg110 ?_
                        refine gop (y_bare (y_pick_f (v := .bool _) rfl hg114 rfl)) rfl rfl rfl ?_
                        refine gop (y_pick_f (v := .bool _) rfl hg110 rfl) rfl rfl rfl ?_
                        refine gops_nil ?_
                        refine hN34 _ _ ?_
                        refine gfrom [(120, .bool _)] ⟨rfl, trivial⟩ fun σ => ?_
                        refine gcond (b := _) rfl (fun hc120 => ?_) (fun hc120 => ?_)
                        · 
                          cases hc120
                        · 
                          refine gskip ?_
                          refine hN33 _ _ ?_
                          refine gfrom [] trivial fun σ => ?_
                          refine gseq fun N45 hN45 => ?_
                          refine greg ?_
                          refine gop (y_assign (v := .int _ _) rfl) rfl rfl rfl ?_
                          refine gops_nil ?_
                          refine hN45 _ _ ?_
                          refine gfrom [(6, .int _ _)] ⟨rfl, trivial⟩ fun σ => ?_
                          refine gret fun w1 hM => ?_
                          refine ⟨_, res1 rfl (rt (v := .int _ _) rfl), ?_⟩
                          have hke : k = (leavesP ins (ll E)).length := by omega
                          exact ⟨0, rfl, hM.low, fun _ => ⟨hkd.1, hkd.2, (show ins.length ≤ 8 by omega), hall, fun h1 => List.length_eq_zero_iff.1 (show (leavesP ins (ll E)).length = 0 by have h9 := hk0 h1; omega), fun h1 h2 h3 => by have h9 : (leavesP ins (ll E)).length = 0 := congrArg List.length h3; have h8 := hrq.2 h1 h2; omega⟩, fun _ => rfl⟩
                    · 
                      have hg110d := of_decide_eq_true hg110
                      refine gop_off rfl rfl rfl rfl hg110 rfl rfl ?_
                      refine gop_off rfl rfl rfl rfl hg110 rfl rfl ?_
                      refine gop_off rfl rfl rfl rfl hg110 rfl rfl ?_
                      refine gop_offu rfl rfl rfl rfl rfl rfl ?_
                      refine gop_offu rfl rfl rfl rfl rfl rfl ?_
                      refine gop_offu rfl rfl rfl rfl rfl rfl ?_
                      refine gop_offu rfl rfl rfl rfl rfl rfl ?_
                      refine gop_off rfl rfl rfl rfl hg110 rfl rfl ?_
                      refine gop (y_pick_t (v := .bool _) rfl hg110 rfl) rfl rfl rfl ?_
                      refine gops_nil ?_
                      refine hN34 _ _ ?_
                      refine gfrom [(120, .bool _)] ⟨rfl, trivial⟩ fun σ => ?_
                      refine gcond (b := _) rfl (fun hc120 => ?_) (fun hc120 => ?_)
                      · 
                        refine gseq fun N46 hN46 => ?_
                        refine greg ?_
                        refine gop (y_assign (v := .int _ _) rfl) rfl rfl rfl ?_
                        refine gops_nil ?_
                        refine hN46 _ _ ?_
                        refine gfrom [(6, .int _ _)] ⟨rfl, trivial⟩ fun σ => ?_
                        refine gret fun w1 hM => ?_
                        refine ⟨_, res1 rfl (rt (v := .int _ _) rfl), ?_⟩
                        exact ⟨9, rfl, hM.low, fun h => absurd h (by decide), fun hz => by exfalso; obtain ⟨hz1, hz2⟩ := hz; omega⟩
                      · 
                        cases hc120
                  · 
                    have hg104d := of_decide_eq_false hg104
                    refine gop_off rfl rfl rfl rfl hg104 rfl rfl ?_
                    refine gop_off rfl rfl rfl rfl hg104 rfl rfl ?_
                    refine gop_on rfl rfl rfl rfl rfl ?_
                    refine gop (y_bare (y_pick_f (v := .bool _) rfl hg104 rfl)) rfl rfl rfl ?_
                    refine gop (y_pick_f (v := .bool _) rfl rfl rfl) rfl rfl rfl ?_
                    refine gop (y_move (v := .bool _) rfl) rfl rfl rfl ?_
                    refine gop_on rfl rfl rfl rfl rfl ?_
                    refine gop (y_bare (y_fieldAddr_box fa30_0 rfl)) rfl rfl rfl ?_
                    refine gop_on rfl rfl rfl rfl rfl ?_
                    refine gop (y_bare (y_load Tryd.isAgg3 rfl (cell_box 0 rfl rfl))) rfl rfl rfl ?_
                    refine gop_on rfl rfl rfl rfl rfl ?_
                    refine gop (y_bare (y_eql rfl rfl)) rfl rfl rfl ?_
                    refine gop_on rfl rfl rfl rfl rfl ?_
                    refine gop (y_bare (y_move (v := .bool _) rfl)) rfl rfl rfl ?_
                    refine gop_if (want := true) rfl rfl rfl rfl rfl rfl (fun hg114 => ?_) (fun hg114 => ?_)
                    · 
                      have hg114d := of_decide_eq_true hg114
                      refine gop (y_bare (y_fieldAddr_box fa30_1 rfl)) rfl rfl rfl ?_
                      refine gop_on rfl rfl rfl rfl hg114 ?_
                      refine gop (y_bare (y_load Tryd.isAgg28 rfl (cell_box 0 rfl rfl))) rfl rfl rfl ?_
                      refine gop_on rfl rfl rfl rfl hg114 ?_
                      refine gop (y_bare (y_len Tryd.underlying28 rfl)) rfl rfl rfl ?_
                      refine gop_on rfl rfl rfl rfl hg114 ?_
                      refine gop (y_bare (y_eql rfl rfl)) rfl rfl rfl ?_
                      refine gop_on rfl rfl rfl rfl rfl ?_
                      refine gop (y_bare (y_pick_t (v := .bool _) rfl hg114 rfl)) rfl rfl rfl ?_
                      refine gop (y_pick_f (v := .bool _) rfl rfl rfl) rfl rfl rfl ?_
                      refine gops_nil ?_
                      refine hN34 _ _ ?_
                      refine gfrom [(120, .bool _)] ⟨rfl, trivial⟩ fun σ => ?_
                      refine gcond (b := _) rfl (fun hc120 => ?_) (fun hc120 => ?_)
                      · 
                        replace hc120 := of_decide_eq_true hc120
                        refine gseq fun N47 hN47 => ?_
                        refine greg ?_
                        refine gop (y_assign (v := .int _ _) rfl) rfl rfl rfl ?_
                        refine gops_nil ?_
                        refine hN47 _ _ ?_
                        refine gfrom [(6, .int _ _)] ⟨rfl, trivial⟩ fun σ => ?_
                        refine gret fun w1 hM => ?_
                        refine ⟨_, res1 rfl (rt (v := .int _ _) rfl), ?_⟩
                        exact ⟨9, rfl, hM.low, fun h => absurd h (by decide), fun hz => by exfalso; obtain ⟨hz1, hz2⟩ := hz; omega⟩
                      · 
                        replace hc120 := of_decide_eq_false hc120
                        refine gskip ?_
                        refine hN33 _ _ ?_
                        refine gfrom [] trivial fun σ => ?_
                        refine gseq fun N48 hN48 => ?_
                        refine greg ?_
                        refine gop (y_assign (v := .int _ _) rfl) rfl rfl rfl ?_
                        refine gops_nil ?_
                        refine hN48 _ _ ?_
                        refine gfrom [(6, .int _ _)] ⟨rfl, trivial⟩ fun σ => ?_
                        refine gret fun w1 hM => ?_
                        refine ⟨_, res1 rfl (rt (v := .int _ _) rfl), ?_⟩
                        have hke : k = (leavesP ins (ll E)).length := by omega
                        exact ⟨0, rfl, hM.low, fun _ => ⟨hkd.1, hkd.2, (show ins.length ≤ 8 by omega), hall, fun h1 => List.length_eq_zero_iff.1 (show (leavesP ins (ll E)).length = 0 by have h9 := hk0 h1; omega), fun h1 h2 h3 => by have h9 : (leavesP ins (ll E)).length = 0 := congrArg List.length h3; have h8 := hrq.2 h1 h2; omega⟩, fun _ => rfl⟩
                    · 
                      have hg114d := of_decide_eq_false hg114
                      refine gop_off rfl rfl rfl rfl hg114 rfl rfl ?_
                      refine gop_off rfl rfl rfl rfl hg114 rfl rfl ?_
                      refine gop_off rfl rfl rfl rfl hg114 rfl rfl ?_
                      refine gop_on rfl rfl rfl rfl rfl ?_
                      refine gop (y_bare (y_pick_f (v := .bool _) rfl hg114 rfl)) rfl rfl rfl ?_
                      refine gop (y_pick_f (v := .bool _) rfl rfl rfl) rfl rfl rfl ?_
                      refine gops_nil ?_
                      refine hN34 _ _ ?_
                      refine gfrom [(120, .bool _)] ⟨rfl, trivial⟩ fun σ => ?_
                      refine gcond (b := _) rfl (fun hc120 => ?_) (fun hc120 => ?_)
                      · 
                        cases hc120
                      · 
                        refine gskip ?_
                        refine hN33 _ _ ?_
                        refine gfrom [] trivial fun σ => ?_
                        refine gseq fun N49 hN49 => ?_
                        refine greg ?_
                        refine gop (y_assign (v := .int _ _) rfl) rfl rfl rfl ?_
                        refine gops_nil ?_
                        refine hN49 _ _ ?_
                        refine gfrom [(6, .int _ _)] ⟨rfl, trivial⟩ fun σ => ?_
                        refine gret fun w1 hM => ?_
                        refine ⟨_, res1 rfl (rt (v := .int _ _) rfl), ?_⟩
                        have hke : k = (leavesP ins (ll E)).length := by omega
                        exact ⟨0, rfl, hM.low, fun _ => ⟨hkd.1, hkd.2, (show ins.length ≤ 8 by omega), hall, fun h1 => List.length_eq_zero_iff.1 (show (leavesP ins (ll E)).length = 0 by have h9 := hk0 h1; omega), fun h1 h2 h3 => by have h9 : (leavesP ins (ll E)).length = 0 := congrArg List.length h3; have h8 := hrq.2 h1 h2; omega⟩, fun _ => rfl⟩
  · 
    have hg21d := of_decide_eq_true hg21
    refine gop_off rfl rfl rfl rfl hg21 rfl rfl ?_
    refine gop_off rfl rfl rfl rfl hg21 rfl rfl ?_
    refine gop (y_pick_t (v := .bool _) rfl hg21 rfl) rfl rfl rfl ?_
    refine gops_nil ?_
    refine hN4 _ _ ?_
    refine gfrom [(0, .slice _ _ _), (1, .int _ _), (2, .slice _ _ _), (7, .pointer _), (25, .bool _)] ⟨rfl, rfl, rfl, rfl, rfl, trivial⟩ fun σ => ?_
    refine gcond (b := _) rfl (fun hc25 => ?_) (fun hc25 => ?_)
    · 
      refine gseq fun N50 hN50 => ?_
      refine greg ?_
      refine gop (y_assign (v := .int _ _) rfl) rfl rfl rfl ?_
      refine gops_nil ?_
      refine hN50 _ _ ?_
      refine gfrom [(6, .int _ _)] ⟨rfl, trivial⟩ fun σ => ?_
      refine gret fun w1 hM => ?_
      refine ⟨_, res1 rfl (rt (v := .int _ _) rfl), ?_⟩
      exact ⟨4, rfl, hM.low, fun h => absurd h (by decide), fun hz => by exfalso; obtain ⟨hz1, hz2⟩ := hz; omega⟩
    · 
      cases hc25
end Go.Proofs.YtlmhppnbcbadbaaDoor
namespace Go.Proofs.YtlmhppnbcbadbaaDoor
open Go.RowKit Go.Cf
set_option maxRecDepth 10000
theorem bd25_0_1 (x1 : Int) (x2 : Int) : Tryd.prog.built 25 [(0, .int .i64 x1), (1, .int .i64 x2)] = some #[.int .i64 x1, .int .i64 x2] := by kernel_rfl
theorem el28 : Elem Tryd.prog 28 1 24 := elem_of (z := .slice none 0 0) (by kernel_rfl) rfl (by decide)
set_option maxHeartbeats 8000000 in
theorem rulesOpen_any (w : World) (B : Option Addr) (bc : Nat) (rs : List RuleC) (hR : RusR w 0 B rs) (hBn : rs.length ≤ maxLen) (hL : LaidK w) :
    Calls Tryd.prog 8 #[.slice B rs.length bc] w fun e w' => ∃ v T' E fr code idx, e = .returned (.tuple #[v, fv ⟨code, idx⟩]) ∧ T' = [rowl lcCells w.heap.size 28 1 (v) (E), fr] ∧ (∀ w1, fr.ok w1 → ∀ a ∈ E, LCX w1 w.heap.size a) ∧ (code = 0 → idx = 0 ∧ E.length = rs.length ∧ EOk (rpl rs) (ll E)) ∧ (rs.length ≤ 30 → (∀ r ∈ rs, r.pl.kind = 1 ∧ r.pl.ins = []) → code = 0) ∧ Mem w T' w' := by
  have hmx : maxLen = 9223372036854775807 := rfl
  refine gcalls Tryd.func8 rfl Tryd.ntmps8 (Nat.le_of_ble_eq_true rfl) ?_
  refine gfrom [(0, .slice _ _ _)] ⟨rfl, trivial⟩ fun σ => ?_
  refine gseq fun N1 hN1 => ?_
  refine greg ?_
  refine gop (y_assign (v := .slice _ _ _) rfl) rfl rfl rfl ?_
  refine gop_alloc (cs := #[.int .i64 0, .int .i64 0]) Tryd.zeroValue25 rfl rfl (fun b3 hb3 => ?_)
  refine gops_nil ?_
  refine hN1 _ _ ?_
  refine gT [box b3 _] rfl ?_
  refine gfrom [(0, .slice _ _ _), (3, .pointer _)] ⟨rfl, rfl, trivial⟩ fun σ => ?_
  refine gseq fun N2 hN2 => ?_
  refine gseq fun N3 hN3 => ?_
  refine greg ?_
  refine gop (y_move (v := .slice _ _ _) rfl) rfl rfl rfl ?_
  refine gop (y_len Tryd.underlying22 rfl) rfl rfl rfl ?_
  refine gop (y_gtr rfl rfl) rfl rfl rfl ?_
  refine gops_nil ?_
  refine hN3 _ _ ?_
  refine gfrom [(0, .slice _ _ _), (3, .pointer _), (10, .bool _)] ⟨rfl, rfl, rfl, trivial⟩ fun σ => ?_
  refine gcond (b := _) rfl (fun hc10 => ?_) (fun hc10 => ?_)
  · 
    replace hc10 := of_decide_eq_true hc10
    refine gseq fun N4 hN4 => ?_
    refine greg ?_
    refine gop (y_build (vs := [(0, _), (1, _)]) (cells := #[_, _]) rfl (bd25_0_1 _ _)) rfl rfl rfl ?_
    refine gop (y_assign (v := .slice _ _ _) rfl) rfl rfl rfl ?_
    refine gop_store 0 (v := .agg #[_, _]) (cs' := #[_, _]) rfl rfl Tryd.sizeOf25 rfl rfl rfl rfl (Nat.le_of_ble_eq_true rfl) rfl rfl ?_
    refine gops_nil ?_
    refine hN4 _ _ ?_
    refine gT [box b3 _] rfl ?_
    refine gfrom [(2, .slice _ _ _), (3, .pointer _)] ⟨rfl, rfl, trivial⟩ fun σ => ?_
    refine gret fun w1 hM => ?_
    refine ⟨_, res2 rfl (rt (v := .slice _ _ _) rfl) (rc 0 (cs := [_, _]) hM rfl rfl Tryd.isAgg25 Tryd.sizeOf25 rfl), ?_⟩
    exact ⟨_, _, [], emp, 2, -1, rfl, rfl, fun _ _ _ h => (by cases h), fun h => absurd h (by decide), fun h _ => absurd h (by omega), (mem_nilrow lcCells 28 1 hM).emp.dropTo 1 rfl⟩
  · 
    replace hc10 := of_decide_eq_false hc10
    refine gskip ?_
    refine hN2 _ _ ?_
    refine gfrom [(0, .slice _ _ _), (3, .pointer _)] ⟨rfl, rfl, trivial⟩ fun σ => ?_
    refine gseq fun N5 hN5 => ?_
    refine greg ?_
    refine gop (y_assign (v := .slice _ _ _) rfl) rfl rfl rfl ?_
    refine gops_nil ?_
    refine hN5 _ _ ?_
    refine gfrom [(0, .slice _ _ _), (3, .pointer _), (4, .slice _ _ _)] ⟨rfl, rfl, rfl, trivial⟩ fun σ => ?_
    refine gseq fun N6 hN6 => ?_
    refine gseq fun N7 hN7 => ?_
    refine greg ?_
    refine gop (y_move (v := .slice _ _ _) rfl) rfl rfl rfl ?_
    refine gop (y_len Tryd.underlying22 rfl) rfl rfl rfl ?_
    refine gop (y_move (v := .int _ _) rfl) rfl rfl rfl ?_
    refine gops_nil ?_
    refine hN7 _ _ ?_
    refine gfrom [(0, .slice _ _ _), (3, .pointer _), (4, .slice _ _ _), (12, .slice _ _ _), (13, .int _ _), (14, .int _ _)] ⟨rfl, rfl, rfl, rfl, rfl, rfl, trivial⟩ fun σ => ?_
    refine gblock ?_
    refine gnilrow lcCells 28 1 ?_
    refine g_emp ?_
    refine gfrom2 [(4, .slice _ _ _), (14, .int _ _)] [(0, .slice _ _ _), (3, .pointer _), (12, .slice _ _ _), (13, .int _ _)] ⟨rfl, rfl, trivial⟩ ⟨rfl, rfl, rfl, rfl, trivial⟩ fun σ => ?_
    refine gloop2 (G := Nat × Option Addr × Nat × List LC × Reg) (fun (k, Av, cv, E, fr) => k ≤ rs.length ∧ E.length = k ∧ EOk (rpl rs) (ll E) ∧ (∀ w1, fr.ok w1 → ∀ a ∈ E, LCX w1 w.heap.size a)) (fun (k, Av, cv, E, fr) => rs.length - k) (fun (k, Av, cv, E, fr) => [(4, .slice Av E.length cv), (14, .int .i64 (k : Int))]) (fun (k, Av, cv, E, fr) => [(1, rowl lcCells w.heap.size 28 1 (.slice Av E.length cv) (E)), (2, fr)]) ((0, none, 0, [], emp)) ?h0 ⟨rfl, rfl, trivial⟩ ⟨rfl, rfl, rfl, rfl, trivial⟩ rfl ?round
    case h0 => exact ⟨Nat.zero_le _, rfl, EOk.nil (by simp; omega), fun _ _ _ h => (by cases h)⟩
    case round =>
      rintro ⟨k, Av, cv, E, fr⟩ hφ σ
      obtain ⟨hk, hel, heo, hfr⟩ : k ≤ rs.length ∧ E.length = k ∧ EOk (rpl rs) (ll E) ∧ (∀ w1, fr.ok w1 → ∀ a ∈ E, LCX w1 w.heap.size a) := hφ
      refine gT [box b3 _, rowl _ _ _ _ _ _, fr] rfl ?_
      refine gseq fun N8 hN8 => ?_
      refine greg ?_
      refine gop (y_lss rfl rfl) rfl rfl rfl ?_
      refine gops_nil ?_
      refine hN8 _ _ ?_
      refine gfrom [(0, .slice _ _ _), (3, .pointer _), (4, .slice Av _ cv), (12, .slice _ _ _), (13, .int _ _), (14, .int _ _), (15, .bool _)] ⟨rfl, rfl, rfl, rfl, rfl, rfl, rfl, trivial⟩ fun σ => ?_
      refine gseq fun N9 hN9 => ?_
      refine gcond (b := _) rfl (fun hc15 => ?_) (fun hc15 => ?_)
      · 
        replace hc15 := of_decide_eq_true hc15
        have hk1 : k < rs.length := by omega
        obtain ⟨ad, rfl, -, hca⟩ := hR.rd.at_ hk1
        refine gskip ?_
        refine hN9 _ _ ?_
        refine gfrom [(0, .slice _ _ _), (3, .pointer _), (4, .slice Av _ cv), (12, .slice _ _ _), (13, .int _ _), (14, .int _ _)] ⟨rfl, rfl, rfl, rfl, rfl, rfl, trivial⟩ fun σ => ?_
        refine gseq fun N10 hN10 => ?_
        refine gblock ?_
        refine gseq fun N11 hN11 => ?_
        refine greg ?_
        refine gop (y_move (v := .int _ _) rfl) rfl rfl rfl ?_
        refine gop (y_indexAddr (m := k) Tryd.underlying22 Tryd.sizeOf30 rfl rfl (by omega) (by omega) (by omega)) rfl rfl rfl ?_
        refine gop (y_loads (cs := [_, _]) Tryd.isAgg30 Tryd.sizeOf30 rfl rfl (cells_base hca)) rfl rfl rfl ?_
        refine gop_alloc (cs := #[.int .i64 0, .slice none 0 0]) Tryd.zeroValue30 rfl rfl (fun b6 hb6 => ?_)
        refine gop (y_assign (v := .int _ _) rfl) rfl rfl rfl ?_
        refine gop_store 3 (v := .agg #[_, _]) (cs' := #[_, _]) rfl rfl Tryd.sizeOf30 rfl rfl rfl rfl (Nat.le_of_ble_eq_true rfl) rfl rfl ?_
        refine gops_nil ?_
        refine hN11 _ _ ?_
        refine gT [box b3 _, rowl _ _ _ _ _ _, fr, box b6 _] rfl ?_
        refine gfrom [(0, .slice _ _ _), (3, .pointer _), (4, .slice Av _ cv), (5, .int _ _), (6, .pointer _), (12, .slice _ _ _), (13, .int _ _), (14, .int _ _)] ⟨rfl, rfl, rfl, rfl, rfl, rfl, rfl, rfl, trivial⟩ fun σ => ?_
        refine gseq fun N12 hN12 => ?_
        refine gseq fun N13 hN13 => ?_
        refine greg ?_
        refine gop (y_move (v := .slice _ _ _) rfl) rfl rfl rfl ?_
        refine gop (y_move (v := .int _ _) rfl) rfl rfl rfl ?_
        refine gop (y_move (v := .slice Av _ cv) rfl) rfl rfl rfl ?_
        refine gop_got (fun v T' => T' = [] ∧ ∃ code : Int, v = .int .i64 code ∧ (code = 0 → ROk (rpl rs) (ll E) k rs[k].pl) ∧ (rs[k].pl.kind = 1 ∧ rs[k].pl.ins = [] → code = 0)) (e_call (vs := [.slice _ _ _, .int _ _, .slice Av _ cv]) Tryd.func13 rfl (by kernel_rfl) rfl) (fun w hM => by have hE : DepsR w 0 Av E := (⟨(row_rdl (f := lcCells) (fun _ => rfl) (hM.ok _ (List.mem_of_getElem? (i := 1) rfl))).mono (Nat.zero_le _), fun a ha => ⟨(hfr _ (hM.ok _ (List.mem_of_getElem? (i := 2) rfl)) a ha).rd.mono (Nat.zero_le _)⟩⟩); have hc := ruleCheck_any w _ bc rs (hR.base hM) k hk1 Av cv E hE (fun a ha => (hfr _ (hM.ok _ (List.mem_of_getElem? (i := 2) rfl)) a ha).nil) heo hel (hL.base hM); exact hc.mono fun _ _ ⟨code, h1, h2, h3, h4⟩ => ⟨_, [], h1, ⟨rfl, code, rfl, h3, h4⟩, (Mem.start w).call h2⟩) rfl rfl rfl ?_
        rintro _ _ ⟨rfl, code, rfl, hck, hcz⟩
        refine gop (y_assign (v := .int .i64 code) rfl) rfl rfl rfl ?_
        refine gops_nil ?_
        refine hN13 _ _ ?_
        refine gfrom [(0, .slice _ _ _), (3, .pointer _), (4, .slice Av _ cv), (5, .int _ _), (6, .pointer _), (7, .int .i64 code), (12, .slice _ _ _), (13, .int _ _), (14, .int _ _)] ⟨rfl, rfl, rfl, rfl, rfl, rfl, rfl, rfl, rfl, trivial⟩ fun σ => ?_
        refine gseq fun N14 hN14 => ?_
        refine greg ?_
        refine gop (y_move (v := .int .i64 code) rfl) rfl rfl rfl ?_
        refine gop (y_neq rfl rfl) rfl rfl rfl ?_
        refine gops_nil ?_
        refine hN14 _ _ ?_
        refine gfrom [(0, .slice _ _ _), (3, .pointer _), (4, .slice Av _ cv), (5, .int _ _), (6, .pointer _), (7, .int .i64 code), (12, .slice _ _ _), (13, .int _ _), (14, .int _ _), (24, .bool _)] ⟨rfl, rfl, rfl, rfl, rfl, rfl, rfl, rfl, rfl, rfl, trivial⟩ fun σ => ?_
        refine gcond (b := _) rfl (fun hc24 => ?_) (fun hc24 => ?_)
        · 
          replace hc24 := of_decide_eq_true hc24
          refine gseq fun N15 hN15 => ?_
          refine greg ?_
          refine gop (y_move (v := .int .i64 code) rfl) rfl rfl rfl ?_
          refine gop (y_move (v := .int _ _) rfl) rfl rfl rfl ?_
          refine gop (y_build (vs := [(0, .int .i64 code), (1, .int _ _)]) (cells := #[_, _]) rfl (bd25_0_1 _ _)) rfl rfl rfl ?_
          refine gop (y_assign (v := .slice _ _ _) rfl) rfl rfl rfl ?_
          refine gop_store 0 (v := .agg #[_, _]) (cs' := #[_, _]) rfl rfl Tryd.sizeOf25 rfl rfl rfl rfl (Nat.le_of_ble_eq_true rfl) rfl rfl ?_
          refine gops_nil ?_
          refine hN15 _ _ ?_
          refine gT [box b3 _, rowl _ _ _ _ _ _, fr, box b6 _] rfl ?_
          refine gfrom [(2, .slice _ _ _), (3, .pointer _)] ⟨rfl, rfl, trivial⟩ fun σ => ?_
          refine gret fun w1 hM => ?_
          refine ⟨_, res2 rfl (rt (v := .slice _ _ _) rfl) (rc 0 (cs := [_, _]) hM rfl rfl Tryd.isAgg25 Tryd.sizeOf25 rfl), ?_⟩
          exact ⟨_, _, [], emp, code, _, rfl, rfl, fun _ _ _ h => (by cases h), fun h => absurd h hc24, fun _ h2 => hcz (h2 _ (List.getElem_mem hk1)), (mem_nilrow lcCells 28 1 hM).emp.dropTo 4 rfl⟩
        · 
          replace hc24 := Decidable.not_not.1 (of_decide_eq_false hc24)
          have hrk := hck (by omega)
          refine gskip ?_
          refine hN12 _ _ ?_
          refine gfrom [(0, .slice _ _ _), (3, .pointer _), (4, .slice Av _ cv), (5, .int _ _), (6, .pointer _), (12, .slice _ _ _), (13, .int _ _), (14, .int _ _)] ⟨rfl, rfl, rfl, rfl, rfl, rfl, rfl, rfl, trivial⟩ fun σ => ?_
          refine greg ?_
          refine gop (y_move (v := .slice Av _ cv) rfl) rfl rfl rfl ?_
          refine gop (y_loads (cs := [_, _]) Tryd.isAgg30 Tryd.sizeOf30 rfl rfl (cells_box 3 rfl)) rfl rfl rfl ?_
          refine gop (y_move (v := .int _ _) rfl) rfl rfl rfl ?_
          refine gop (y_move (v := .slice Av _ cv) rfl) rfl rfl rfl ?_
          refine gop_got (fun v T' => ∃ lo, w.heap.size ≤ lo ∧ T' = [rowl intCells lo 3 1 (v) (standsP rs[k].pl k (ll E))]) (e_call (vs := [.agg #[_, _], .int _ _, .slice Av _ cv]) Tryd.func14 rfl (by kernel_rfl) rfl) (fun w hM => by have hE : DepsR w 0 Av E := (⟨(row_rdl (f := lcCells) (fun _ => rfl) (hM.ok _ (List.mem_of_getElem? (i := 1) rfl))).mono (Nat.zero_le _), fun a ha => ⟨(hfr _ (hM.ok _ (List.mem_of_getElem? (i := 2) rfl)) a ha).rd.mono (Nat.zero_le _)⟩⟩); have hc := stands_any w rs[k].pl.kind rs[k].A rs[k].c rs[k].pl.ins ((hR.each _ (List.getElem_mem hk1)).rd.base hM) Av cv E hE (fun a ha => (hfr _ (hM.ok _ (List.mem_of_getElem? (i := 2) rfl)) a ha).nil) k (by omega) (fun n hn => by have h9 := hrk.ins n hn; omega) hrk.il heo.short; exact hc.mono fun _ _ ⟨v, T1, lo, h1, h2, h3, h4⟩ => ⟨v, T1, h1, ⟨lo, Nat.le_trans hM.low.size h2, h3⟩, h4⟩) rfl rfl rfl ?_
          rintro v32 _ ⟨lo32, hlo32, rfl⟩
          refine gops_fact (fun w hM => row_form (hM.ok _ (List.mem_of_getElem? (i := 4) rfl))) ?_
          rintro ⟨A32, c32, rfl, hc32, hm32, hn32⟩
          refine gop_lit (vs := [.slice A32 _ c32]) (cells := #[_]) Tryd.underlying33 Tryd.sizeOf28 Tryd.zeroValue28 rfl (by decide) (by decide) rfl rfl rfl rfl (fun b33 hb33 => ?_)
          refine gop_append 1 (f := lcCells) (l2 := [⟨standsP rs[k].pl k (ll E), A32, c32⟩]) Tryd.underlying33 el28 wide_lc (v := .slice Av _ cv) rfl rfl rfl rfl (fun h => by cases h) (by simp [maxLen]; omega) (by simp; omega) (src_box 5 rfl rfl) rfl (fun v34 => ?_)
          refine gops_fact (fun w hM => own_form (hM.own 1 rfl)) ?_
          rintro ⟨A34, c34, rfl, hc34, hm34⟩
          refine gop (y_assign (v := .slice A34 _ c34) rfl) rfl rfl rfl ?_
          refine gops_nil ?_
          refine hN10 _ _ ?_
          refine gT [box b3 _, rowl _ _ _ _ _ _, fr, box b6 _, rowl _ _ _ _ _ _, box b33 _] rfl ?_
          refine gfrom [(0, .slice _ _ _), (3, .pointer _), (4, .slice A34 _ c34), (12, .slice _ _ _), (13, .int _ _), (14, .int _ _)] ⟨rfl, rfl, rfl, rfl, rfl, rfl, trivial⟩ fun σ => ?_
          refine greg ?_
          refine gop (y_add rfl rfl ⟨by omega, by omega⟩) rfl rfl rfl ?_
          refine gop (y_move (v := .int _ _) rfl) rfl rfl rfl ?_
          refine gops_nil ?_
          refine fin_mem _ (weak_all 3 2 rfl) ?_
          refine gnext2 ((k + 1, A34, c34, E ++ [⟨standsP rs[k].pl k (ll E), A32, c32⟩], both fr (all_ [_, _, _]))) (by show rs.length - (k + 1) < rs.length - k; omega) (⟨by show k + 1 ≤ _; omega, by simp [hel], heo.snocC hel hk1 hrk _ _, fun w1 ho a ha => ?hr⟩) ⟨rfl, rfl, trivial⟩ ⟨rfl, rfl, rfl, rfl, trivial⟩ ⟨_, rfl⟩
          case hr =>
            rcases List.mem_append.1 ha with ha | ha
            · exact hfr w1 ho.1 a ha
            · obtain rfl := List.mem_singleton.1 ha
              exact ⟨(row_rdl (f := intCells) (fun _ => rfl) ho.2.2.1).mono hlo32, hn32, hc32, hm32⟩
      · 
        replace hc15 := of_decide_eq_false hc15
        refine gexit ?_
        refine hN6 _ _ ?_
        refine gfrom [(3, .pointer _), (4, .slice Av _ cv)] ⟨rfl, rfl, trivial⟩ fun σ => ?_
        refine gseq fun N16 hN16 => ?_
        refine greg ?_
        refine gop (y_move (v := .slice Av _ cv) rfl) rfl rfl rfl ?_
        refine gop (y_build (vs := []) (cells := #[.int .i64 0, .int .i64 0]) rfl bd25_) rfl rfl rfl ?_
        refine gop (y_assign (v := .slice Av _ cv) rfl) rfl rfl rfl ?_
        refine gop_store 0 (v := .agg #[_, _]) (cs' := #[_, _]) rfl rfl Tryd.sizeOf25 rfl rfl rfl rfl (Nat.le_of_ble_eq_true rfl) rfl rfl ?_
        refine gops_nil ?_
        refine hN16 _ _ ?_
        refine gT [box b3 _, rowl _ _ _ _ _ _, fr] rfl ?_
        refine gfrom [(2, .slice Av _ cv), (3, .pointer _)] ⟨rfl, rfl, trivial⟩ fun σ => ?_
        refine gret fun w1 hM => ?_
        refine ⟨_, res2 rfl (rt (v := .slice Av _ cv) rfl) (rc 0 (cs := [_, _]) hM rfl rfl Tryd.isAgg25 Tryd.sizeOf25 rfl), ?_⟩
        exact ⟨_, _, E, fr, 0, 0, rfl, rfl, hfr, fun _ => ⟨rfl, by omega, heo⟩, fun _ _ => rfl, hM.dropTo 1 rfl⟩
end Go.Proofs.YtlmhppnbcbadbaaDoor
namespace Go.Proofs.YtlmhppnbcbadbaaDoor
open Go.RowKit Go.Cf
set_option maxRecDepth 10000
theorem bd36_0_1 (x1 : Int) (x2 : Int) : Tryd.prog.built 36 [(0, .int .i64 x1), (1, .int .i64 x2)] = some #[.int .i64 x1, .int .i64 x2, .slice none 0 0] := by kernel_rfl
theorem fa36_2 (a : Addr) (w : World) : (Instr.fieldAt 36 (.pointer (some a)) 2).run Tryd.prog w = .ok (.pointer (some (a.add 2))) w := by kernel_rfl
theorem el36 : Elem Tryd.prog 36 3 40 := elem_of (z := .agg #[.int .i64 0, .int .i64 0, .slice none 0 0]) (by kernel_rfl) rfl (by decide)
set_option maxHeartbeats 16000000 in
theorem rulesExpand_any (w : World) (B : Option Addr) (bc : Nat) (rs : List RuleC) (hR : RusR w 0 B rs) (hBn : rs.length ≤ maxLen) (hL : LaidK w) :
    Calls Tryd.prog 4 #[.slice B rs.length bc] w fun e w' => ∃ v T' ss fr code idx, e = .returned (.tuple #[v, fv ⟨code, idx⟩]) ∧ T' = [rowl stepCells w.heap.size 36 3 (v) (ss), fr] ∧ (∀ w1, fr.ok w1 → ∀ s ∈ ss, SCX w1 w.heap.size s) ∧ (∀ i (h : i < ss.length), SOk i ss[i].pl.kind ss[i].pl.ins) ∧ (code ≠ 0 → ss = []) ∧ (rs.length ≤ 30 → (∀ r ∈ rs, r.pl.kind = 1 ∧ r.pl.ins = []) → code = 0 ∧ ss.length = rs.length) ∧ ss.length ≤ 30 ∧ Mem w T' w' := by
  have hmx : maxLen = 9223372036854775807 := rfl
  refine gcalls Tryd.func4 rfl Tryd.ntmps4 (Nat.le_of_ble_eq_true rfl) ?_
  refine gfrom [(0, .slice _ _ _)] ⟨rfl, trivial⟩ fun σ => ?_
  refine gseq fun N1 hN1 => ?_
  refine greg ?_
  refine gop (y_assign (v := .slice _ _ _) rfl) rfl rfl rfl ?_
  refine gop_alloc (cs := #[.int .i64 0, .int .i64 0]) Tryd.zeroValue25 rfl rfl (fun b3 hb3 => ?_)
  refine gops_nil ?_
  refine hN1 _ _ ?_
  refine gT [box b3 _] rfl ?_
  refine gfrom [(0, .slice _ _ _), (3, .pointer _)] ⟨rfl, rfl, trivial⟩ fun σ => ?_
  refine gseq fun N2 hN2 => ?_
  refine greg ?_
  refine gop (y_move (v := .slice _ _ _) rfl) rfl rfl rfl ?_
  refine gop_got (fun v T' => ∃ lo u E fr code idx, v = .tuple #[u, fv ⟨code, idx⟩] ∧ w.heap.size ≤ lo ∧ T' = [rowl lcCells lo 28 1 (u) (E), fr] ∧ (∀ w1, fr.ok w1 → ∀ a ∈ E, LCX w1 w.heap.size a) ∧ (code = 0 → idx = 0 ∧ E.length = rs.length ∧ EOk (rpl rs) (ll E)) ∧ (rs.length ≤ 30 → (∀ r ∈ rs, r.pl.kind = 1 ∧ r.pl.ins = []) → code = 0)) (e_call (vs := [.slice _ _ _]) Tryd.func8 rfl (by kernel_rfl) rfl) (fun w hM => by have hc := rulesOpen_any w _ bc rs (hR.base hM) hBn (hL.base hM); exact hc.mono fun _ _ ⟨v, T1, E, fr, code, idx, h1, h2, h3, h4, h5, h6⟩ => ⟨_, T1, h1, ⟨_, v, E, fr, code, idx, rfl, hM.low.size, h2, fun w1 ho a ha => (h3 w1 ho a ha).mono hM.low.size, h4, h5⟩, h6⟩) rfl rfl rfl ?_
  rintro _ _ ⟨lo15, v15, E, fr, code, idx, rfl, hlo15, rfl, hfr, hok, hsrc⟩
  refine gops_fact (fun w hM => row_form (hM.ok _ (List.mem_of_getElem? (i := 1) rfl))) ?_
  rintro ⟨A15, c15, rfl, hc15, hm15, hn15⟩
  refine gop (y_move (v := .tuple #[.slice A15 _ c15, .agg #[_, _]]) rfl) rfl rfl rfl ?_
  refine gop (y_extract (v := .slice _ _ _) rfl rfl) rfl rfl rfl ?_
  refine gop (y_extract (v := .agg #[_, _]) rfl rfl) rfl rfl rfl ?_
  refine gop_alloc (cs := #[.int .i64 0, .int .i64 0]) Tryd.zeroValue25 rfl rfl (fun b5 hb5 => ?_)
  refine gop (y_assign (v := .slice _ _ _) rfl) rfl rfl rfl ?_
  refine gop_store 3 (v := .agg #[_, _]) (cs' := #[_, _]) rfl rfl Tryd.sizeOf25 rfl rfl rfl rfl (Nat.le_of_ble_eq_true rfl) rfl rfl ?_
  refine gops_nil ?_
  refine hN2 _ _ ?_
  refine gT [box b3 _, rowl _ _ _ _ _ _, fr, box b5 _] rfl ?_
  refine gfrom [(0, .slice _ _ _), (3, .pointer _), (4, .slice _ _ _), (5, .pointer _)] ⟨rfl, rfl, rfl, rfl, trivial⟩ fun σ => ?_
  refine gseq fun N3 hN3 => ?_
  refine gseq fun N4 hN4 => ?_
  refine greg ?_
  refine gop (y_loads (cs := [_, _]) Tryd.isAgg25 Tryd.sizeOf25 rfl rfl (cells_box 3 rfl)) rfl rfl rfl ?_
  refine gop (y_build (vs := []) (cells := #[.int .i64 0, .int .i64 0]) rfl bd25_) rfl rfl rfl ?_
  refine gop (y_bin (vx := .agg #[_, _]) (vy := .agg #[_, _]) rfl rfl (fun w => eg25 _ _ _ _ _ w) (fun w => ne25 _ _ _ _ w)) rfl rfl rfl ?_
  refine gops_nil ?_
  refine hN4 _ _ ?_
  refine gfrom [(0, .slice _ _ _), (3, .pointer _), (4, .slice _ _ _), (5, .pointer _), (20, .bool _)] ⟨rfl, rfl, rfl, rfl, rfl, trivial⟩ fun σ => ?_
  refine gcond (b := _) rfl (fun hc20 => ?_) (fun hc20 => ?_)
  · 
    replace hc20 := fault_ne.1 hc20
    refine gseq fun N5 hN5 => ?_
    refine greg_e1 [] [(0, room b3 25 2)] (by kernel_rfl) ?_
    refine ge_take 0 (TK := [room b3 25 2, rowl _ _ _ _ _ _, fr, box b5 _]) rfl (by kernel_rfl) (by kernel_rfl) (by kernel_rfl) #[false, true, false] (by kernel_rfl) rfl (y_loads (cs := [_, _]) Tryd.isAgg25 Tryd.sizeOf25 rfl rfl (cells_box 3 rfl)) rfl rfl rfl (weak_room 0 rfl rfl) (listed' := #[true, false, false]) rfl ?_
    refine ge_take 1 (TK := [room b3 25 2, rowl _ _ _ _ _ _, fr, box b5 _]) rfl (by kernel_rfl) (by kernel_rfl) (by kernel_rfl) #[true, false, false] (by kernel_rfl) rfl (y_assign (v := .slice _ _ _) rfl) rfl rfl rfl (weak_room 0 rfl rfl) (listed' := #[true, true, false]) rfl ?_
    refine ge_one 2 (k' := 0) (listed' := #[true, true, true]) (by kernel_rfl) rfl rfl rfl ?_
    refine gop_store 0 (v := .agg #[_, _]) (cs' := #[_, _]) rfl rfl Tryd.sizeOf25 rfl rfl rfl rfl (Nat.le_of_ble_eq_true rfl) rfl rfl ?_
    refine gops_nil ?_
    refine ge_fin (TK := [room b3 25 2, rowl _ _ _ _ _ _, fr, box b5 _]) rfl (weak_room 0 rfl rfl) ?_
    refine ge_done (by kernel_rfl) ?_
    refine hN5 _ _ ?_
    refine gT [box b3 _, rowl _ _ _ _ _ _, fr, box b5 _] rfl ?_
    refine gfrom [(2, .slice _ _ _), (3, .pointer _)] ⟨rfl, rfl, trivial⟩ fun σ => ?_
    refine gret fun w1 hM => ?_
    refine ⟨_, res2 rfl (rt (v := .slice _ _ _) rfl) (rc 0 (cs := [_, _]) hM rfl rfl Tryd.isAgg25 Tryd.sizeOf25 rfl), ?_⟩
    exact ⟨_, _, [], emp, code, idx, rfl, rfl, fun _ _ _ h => (by cases h), fun _ h => absurd h (Nat.not_lt_zero _), fun _ => rfl, fun h1 h2 => absurd (by rw [hsrc h1 h2, (hok (hsrc h1 h2)).1]) hc20, Nat.zero_le _, (mem_nilrow stepCells 36 3 hM).emp.dropTo 4 rfl⟩
  · 
    replace hc20 := fault_eq.1 hc20
    have hcode : code = 0 := congrArg Fault.code hc20
    obtain ⟨hidx, hel, heo⟩ := hok hcode
    have hcap : rs.length ≤ 30 := by have h9 := heo.cap; simpa using h9
    refine gskip ?_
    refine hN3 _ _ ?_
    refine gfrom [(0, .slice _ _ _), (3, .pointer _), (4, .slice _ _ _)] ⟨rfl, rfl, rfl, trivial⟩ fun σ => ?_
    refine gseq fun N6 hN6 => ?_
    refine greg ?_
    refine gop (y_move (v := .slice _ _ _) rfl) rfl rfl rfl ?_
    refine gop (y_len Tryd.underlying22 rfl) rfl rfl rfl ?_
    refine gop_make (f := intCells) (bytes := 8) (z := .int .i64 0) ((0 : Int)) Tryd.underlying28 (by kernel_rfl) rfl rfl rfl (k := rs.length) rfl rfl (by omega) (by simp [maxLen]; omega) rfl (fun b24 hb24 => ?_)
    refine gop (y_assign (v := .slice (some _) _ _) rfl) rfl rfl rfl ?_
    refine gops_nil ?_
    refine hN6 _ _ ?_
    refine gT [box b3 _, rowl _ _ _ _ _ _, fr, box b5 _, rowl _ _ _ _ _ _] rfl ?_
    refine gfrom [(0, .slice _ _ _), (3, .pointer _), (4, .slice _ _ _), (6, .slice (some _) _ _)] ⟨rfl, rfl, rfl, rfl, trivial⟩ fun σ => ?_
    refine gseq fun N7 hN7 => ?_
    refine greg ?_
    refine gop (y_assign (v := .slice _ _ _) rfl) rfl rfl rfl ?_
    refine gops_nil ?_
    refine hN7 _ _ ?_
    refine gfrom [(0, .slice _ _ _), (3, .pointer _), (4, .slice _ _ _), (6, .slice (some _) _ _), (7, .slice _ _ _)] ⟨rfl, rfl, rfl, rfl, rfl, trivial⟩ fun σ => ?_
    refine gseq fun N8 hN8 => ?_
    refine gseq fun N9 hN9 => ?_
    refine greg ?_
    refine gop (y_move (v := .slice _ _ _) rfl) rfl rfl rfl ?_
    refine gop (y_len Tryd.underlying22 rfl) rfl rfl rfl ?_
    refine gop (y_move (v := .int _ _) rfl) rfl rfl rfl ?_
    refine gops_nil ?_
    refine hN9 _ _ ?_
    refine gfrom [(3, .pointer _), (4, .slice _ _ _), (6, .slice (some _) _ _), (7, .slice _ _ _), (25, .slice _ _ _), (26, .int _ _), (27, .int _ _)] ⟨rfl, rfl, rfl, rfl, rfl, rfl, rfl, trivial⟩ fun σ => ?_
    refine gblock ?_
    refine gnilrow stepCells 36 3 ?_
    refine g_emp ?_
    refine gfrom2 [(7, .slice _ _ _), (27, .int _ _)] [(3, .pointer _), (4, .slice _ _ _), (6, .slice (some _) _ _), (25, .slice _ _ _), (26, .int _ _)] ⟨rfl, rfl, trivial⟩ ⟨rfl, rfl, rfl, rfl, rfl, trivial⟩ fun σ => ?_
    refine gloop2 (G := Nat × Option Addr × Nat × List StepC × List Int × Reg) (fun (k, Av, cv, ss, st, fs) => k ≤ rs.length ∧ ss.length = cntR (rpl rs) k ∧ st.length = rs.length ∧ (∀ j (h : j < rs.length), j < k → rs[j].pl.kind ≠ 6 → st[j]? = some (cntR (rpl rs) j : Int)) ∧ (∀ i (h : i < ss.length), SOk i ss[i].pl.kind ss[i].pl.ins) ∧ (∀ w1, fs.ok w1 → ∀ s ∈ ss, SCX w1 w.heap.size s)) (fun (k, Av, cv, ss, st, fs) => rs.length - k) (fun (k, Av, cv, ss, st, fs) => [(7, .slice Av ss.length cv), (27, .int .i64 (k : Int))]) (fun (k, Av, cv, ss, st, fs) => [(4, rowl intCells w.heap.size 3 1 (.slice (some ⟨b24, 0, none⟩) rs.length rs.length) st), (5, rowl stepCells w.heap.size 36 3 (.slice Av ss.length cv) (ss)), (6, fs)]) ((0, none, 0, [], List.replicate rs.length 0, emp)) ?h0 ⟨rfl, rfl, trivial⟩ ⟨rfl, rfl, rfl, rfl, rfl, trivial⟩ rfl ?round
    case h0 => exact ⟨Nat.zero_le _, rfl, List.length_replicate, fun _ _ h => absurd h (Nat.not_lt_zero _), fun _ h => absurd h (Nat.not_lt_zero _), fun _ _ _ h => (by cases h)⟩
    case round =>
      rintro ⟨k, Av, cv, ss, st, fs⟩ hφ σ
      obtain ⟨hk, hsl, hst, hst2, hsok, hfs⟩ : k ≤ rs.length ∧ ss.length = cntR (rpl rs) k ∧ st.length = rs.length ∧ (∀ j (h : j < rs.length), j < k → rs[j].pl.kind ≠ 6 → st[j]? = some (cntR (rpl rs) j : Int)) ∧ (∀ i (h : i < ss.length), SOk i ss[i].pl.kind ss[i].pl.ins) ∧ (∀ w1, fs.ok w1 → ∀ s ∈ ss, SCX w1 w.heap.size s) := hφ
      refine gT [box b3 _, rowl _ _ _ _ _ _, fr, box b5 _, rowl _ _ _ _ _ _, rowl _ _ _ _ _ _, fs] rfl ?_
      refine gseq fun N10 hN10 => ?_
      refine greg ?_
      refine gop (y_lss rfl rfl) rfl rfl rfl ?_
      refine gops_nil ?_
      refine hN10 _ _ ?_
      refine gfrom [(3, .pointer _), (4, .slice _ _ _), (6, .slice (some _) _ _), (7, .slice Av _ cv), (25, .slice _ _ _), (26, .int _ _), (27, .int _ _), (28, .bool _)] ⟨rfl, rfl, rfl, rfl, rfl, rfl, rfl, rfl, trivial⟩ fun σ => ?_
      refine gseq fun N11 hN11 => ?_
      refine gcond (b := _) rfl (fun hc28 => ?_) (fun hc28 => ?_)
      · 
        replace hc28 := of_decide_eq_true hc28
        have hk1 : k < rs.length := by omega
        obtain ⟨ad, rfl, -, hca⟩ := hR.rd.at_ hk1
        have hrk := heo.at_ hel hk1
        have hown := heo.leaves (i := k) hrk.ins (by simp; omega)
        have hol : (leavesP rs[k].pl.ins (ll E)).length ≤ 30 := by rcases inc_len (inc_of (leavesP_pair rs[k].pl.ins (ll E))) (b := (k : Int)) (fun n hn => ⟨(hown n hn).1, (hown n hn).2.1⟩) with h9 | h9 <;> first | omega | (rw [h9]; exact Nat.zero_le _)
        have hkst : k < st.length := by omega
        have hcn := cntR_le (rpl rs) k
        have hrl : (rpl rs).length = rs.length := by simp
        refine gskip ?_
        refine hN11 _ _ ?_
        refine gfrom [(3, .pointer _), (4, .slice _ _ _), (6, .slice (some _) _ _), (7, .slice Av _ cv), (25, .slice _ _ _), (26, .int _ _), (27, .int _ _)] ⟨rfl, rfl, rfl, rfl, rfl, rfl, rfl, trivial⟩ fun σ => ?_
        refine gseq fun N12 hN12 => ?_
        refine gblock ?_
        refine gseq fun N13 hN13 => ?_
        refine greg ?_
        refine gop (y_move (v := .int _ _) rfl) rfl rfl rfl ?_
        refine gop (y_indexAddr (m := k) Tryd.underlying22 Tryd.sizeOf30 rfl rfl (by omega) (by omega) (by omega)) rfl rfl rfl ?_
        refine gop (y_loads (cs := [_, _]) Tryd.isAgg30 Tryd.sizeOf30 rfl rfl (cells_base hca)) rfl rfl rfl ?_
        refine gop_alloc (cs := #[.int .i64 0, .slice none 0 0]) Tryd.zeroValue30 rfl rfl (fun b9 hb9 => ?_)
        refine gop (y_assign (v := .int _ _) rfl) rfl rfl rfl ?_
        refine gop_store 7 (v := .agg #[_, _]) (cs' := #[_, _]) rfl rfl Tryd.sizeOf30 rfl rfl rfl rfl (Nat.le_of_ble_eq_true rfl) rfl rfl ?_
        refine gops_nil ?_
        refine hN13 _ _ ?_
        refine gT [box b3 _, rowl _ _ _ _ _ _, fr, box b5 _, rowl _ _ _ _ _ _, rowl _ _ _ _ _ _, fs, box b9 _] rfl ?_
        refine gfrom [(3, .pointer _), (4, .slice _ _ _), (6, .slice (some _) _ _), (7, .slice Av _ cv), (8, .int _ _), (9, .pointer _), (25, .slice _ _ _), (26, .int _ _), (27, .int _ _)] ⟨rfl, rfl, rfl, rfl, rfl, rfl, rfl, rfl, rfl, trivial⟩ fun σ => ?_
        refine gseq fun N14 hN14 => ?_
        refine gseq fun N15 hN15 => ?_
        refine greg ?_
        refine gop (y_fieldAddr_box fa30_0 rfl) rfl rfl rfl ?_
        refine gop (y_load Tryd.isAgg3 rfl (cell_box 7 rfl rfl)) rfl rfl rfl ?_
        refine gop (y_eql rfl rfl) rfl rfl rfl ?_
        refine gops_nil ?_
        refine hN15 _ _ ?_
        refine gfrom [(3, .pointer _), (4, .slice _ _ _), (6, .slice (some _) _ _), (7, .slice Av _ cv), (8, .int _ _), (9, .pointer _), (25, .slice _ _ _), (26, .int _ _), (27, .int _ _), (34, .bool _)] ⟨rfl, rfl, rfl, rfl, rfl, rfl, rfl, rfl, rfl, rfl, trivial⟩ fun σ => ?_
        refine gcond (b := _) rfl (fun hc34 => ?_) (fun hc34 => ?_)
        · 
          replace hc34 := of_decide_eq_true hc34
          refine gexit ?_
          refine hN12 _ _ ?_
          refine gfrom [(3, .pointer _), (4, .slice _ _ _), (6, .slice (some _) _ _), (7, .slice Av _ cv), (25, .slice _ _ _), (26, .int _ _), (27, .int _ _)] ⟨rfl, rfl, rfl, rfl, rfl, rfl, rfl, trivial⟩ fun σ => ?_
          refine greg ?_
          refine gop (y_add rfl rfl ⟨by omega, by omega⟩) rfl rfl rfl ?_
          refine gop (y_move (v := .int _ _) rfl) rfl rfl rfl ?_
          refine gops_nil ?_
          refine gnext2 ((k + 1, Av, cv, ss, st, fs)) (by show rs.length - (k + 1) < rs.length - k; omega) (⟨by show k + 1 ≤ _; omega, cntR_skip hk1 hsl (by omega), hst, st_skip hst2 hk1 (by omega), hsok, hfs⟩) ⟨rfl, rfl, trivial⟩ ⟨rfl, rfl, rfl, rfl, rfl, trivial⟩ ⟨_, rfl⟩
          
        · 
          replace hc34 := of_decide_eq_false hc34
          have h6 : rs[k].pl.kind ≠ 6 := by omega
          refine gskip ?_
          refine hN14 _ _ ?_
          refine gfrom [(3, .pointer _), (4, .slice _ _ _), (6, .slice (some _) _ _), (7, .slice Av _ cv), (8, .int _ _), (9, .pointer _), (25, .slice _ _ _), (26, .int _ _), (27, .int _ _)] ⟨rfl, rfl, rfl, rfl, rfl, rfl, rfl, rfl, rfl, trivial⟩ fun σ => ?_
          refine gseq fun N16 hN16 => ?_
          refine greg ?_
          refine gop (y_move (v := .slice (some _) _ _) rfl) rfl rfl rfl ?_
          refine gop (y_move (v := .int _ _) rfl) rfl rfl rfl ?_
          refine gop (y_move (v := .slice Av _ cv) rfl) rfl rfl rfl ?_
          refine gop (y_len Tryd.underlying23 rfl) rfl rfl rfl ?_
          refine gop (y_indexAddr (m := k) Tryd.underlying28 Tryd.sizeOf3 rfl rfl (by omega) (by omega) (by omega)) rfl rfl rfl ?_
          refine gop_store_row 4 (f := intCells) (l := st) (k := k) (o := 0) (v := .int _ _) (a := st[k]) (a' := (ss.length : Int)) (fun _ => rfl) rfl rfl rfl Tryd.sizeOf3 rfl rfl rfl rfl hst.symm (List.getElem?_eq_getElem hkst) (Nat.le_of_ble_eq_true rfl) rfl rfl ?_
          refine gops_nil ?_
          refine hN16 _ _ ?_
          refine gT [box b3 _, rowl _ _ _ _ _ _, fr, box b5 _, rowl _ _ _ _ _ _, rowl _ _ _ _ _ _, fs, box b9 _] rfl ?_
          refine gfrom [(3, .pointer _), (4, .slice _ _ _), (6, .slice (some _) _ _), (7, .slice Av _ cv), (8, .int _ _), (9, .pointer _), (25, .slice _ _ _), (26, .int _ _), (27, .int _ _)] ⟨rfl, rfl, rfl, rfl, rfl, rfl, rfl, rfl, rfl, trivial⟩ fun σ => ?_
          refine gseq fun N17 hN17 => ?_
          refine greg ?_
          refine gop (y_move (v := .int _ _) rfl) rfl rfl rfl ?_
          refine gop (y_fieldAddr_box fa30_0 rfl) rfl rfl rfl ?_
          refine gop (y_load Tryd.isAgg3 rfl (cell_box 7 rfl rfl)) rfl rfl rfl ?_
          refine gop (y_build (vs := [(0, .int _ _), (1, .int _ _)]) (cells := #[_, _, .slice none 0 0]) rfl (bd36_0_1 _ _)) rfl rfl rfl ?_
          refine gop_alloc (cs := #[.int .i64 0, .int .i64 0, .slice none 0 0]) Tryd.zeroValue36 rfl rfl (fun b10 hb10 => ?_)
          refine gop_store 8 (v := .agg #[_, _, _]) (cs' := #[_, _, _]) rfl rfl Tryd.sizeOf36 rfl rfl rfl rfl (Nat.le_of_ble_eq_true rfl) rfl rfl ?_
          refine gops_nil ?_
          refine hN17 _ _ ?_
          refine gT [box b3 _, rowl _ _ _ _ _ _, fr, box b5 _, rowl _ _ _ _ _ _, rowl _ _ _ _ _ _, fs, box b9 _, box b10 _] rfl ?_
          refine gfrom [(3, .pointer _), (4, .slice _ _ _), (6, .slice (some _) _ _), (7, .slice Av _ cv), (9, .pointer _), (10, .pointer _), (25, .slice _ _ _), (26, .int _ _), (27, .int _ _)] ⟨rfl, rfl, rfl, rfl, rfl, rfl, rfl, rfl, rfl, trivial⟩ fun σ => ?_
          refine gseq fun N18 hN18 => ?_
          refine gseq fun N19 hN19 => ?_
          refine greg ?_
          refine gop (y_loads (cs := [_, _]) Tryd.isAgg30 Tryd.sizeOf30 rfl rfl (cells_box 7 rfl)) rfl rfl rfl ?_
          refine gop (y_move (v := .slice _ _ _) rfl) rfl rfl rfl ?_
          refine gop_got (fun v T' => ∃ lo, w.heap.size ≤ lo ∧ T' = [rowl intCells lo 3 1 (v) (leavesP rs[k].pl.ins (ll E))]) (e_call (vs := [.agg #[_, _], .slice _ _ _]) Tryd.func9 rfl (by kernel_rfl) rfl) (fun w hM => by have hE : DepsR w 0 A15 E := (⟨(row_rdl (f := lcCells) (fun _ => rfl) (hM.ok _ (List.mem_of_getElem? (i := 1) rfl))).mono (Nat.zero_le _), fun a ha => ⟨(hfr _ (hM.ok _ (List.mem_of_getElem? (i := 2) rfl)) a ha).rd.mono (Nat.zero_le _)⟩⟩); have hc := leaves_any w rs[k].pl.kind rs[k].A rs[k].c rs[k].pl.ins ((hR.each _ (List.getElem_mem hk1)).rd.base hM) A15 c15 E hE (fun a ha => (hfr _ (hM.ok _ (List.mem_of_getElem? (i := 2) rfl)) a ha).nil) (fun n hn => by have h9 := hrk.ins n hn; omega) hrk.il heo.short; exact hc.mono fun _ _ ⟨v, T1, h1, h2, h3⟩ => ⟨v, T1, h1, ⟨_, hM.low.size, h2⟩, h3⟩) rfl rfl rfl ?_
          rintro v46 _ ⟨lo46, hlo46, rfl⟩
          refine gops_fact (fun w hM => row_form (hM.ok _ (List.mem_of_getElem? (i := 9) rfl))) ?_
          rintro ⟨A46, c46, rfl, hc46, hm46, hn46⟩
          refine gops_fact (Φ := 0 < (leavesP rs[k].pl.ins (ll E)).length → ∃ g, A46 = some ⟨g, 0, none⟩) (fun w hM h9 => row_g (hM.ok _ (List.mem_of_getElem? (i := 9) rfl)) h9) ?_
          intro hg46
          refine gop (y_len Tryd.underlying28 rfl) rfl rfl rfl ?_
          refine gop (y_move (v := .int _ _) rfl) rfl rfl rfl ?_
          refine gops_nil ?_
          refine hN19 _ _ ?_
          refine gT [box b3 _, rowl _ _ _ _ _ _, fr, box b5 _, rowl _ _ _ _ _ _, rowl _ _ _ _ _ _, fs, box b9 _, box b10 _, rowl _ _ _ _ _ _] rfl ?_
          refine gfrom [(3, .pointer _), (4, .slice _ _ _), (6, .slice (some _) _ _), (7, .slice Av _ cv), (10, .pointer _), (25, .slice _ _ _), (26, .int _ _), (27, .int _ _), (46, .slice A46 _ c46), (47, .int _ _), (48, .int _ _)] ⟨rfl, rfl, rfl, rfl, rfl, rfl, rfl, rfl, rfl, rfl, rfl, trivial⟩ fun σ => ?_
          refine gblock ?_
          refine gnilrow intCells 3 1 ?_
          refine gfrom2 [(48, .int _ _)] [(3, .pointer _), (4, .slice _ _ _), (6, .slice (some _) _ _), (7, .slice Av _ cv), (10, .pointer _), (25, .slice _ _ _), (26, .int _ _), (27, .int _ _), (46, .slice A46 _ c46), (47, .int _ _)] ⟨rfl, trivial⟩ ⟨rfl, rfl, rfl, rfl, rfl, rfl, rfl, rfl, rfl, rfl, trivial⟩ fun σ => ?_
          refine gloop2 (G := Nat × Option Addr × Nat) (fun (j, Iv, iv) => j ≤ (leavesP rs[k].pl.ins (ll E)).length) (fun (j, Iv, iv) => (leavesP rs[k].pl.ins (ll E)).length - j) (fun (j, Iv, iv) => [(48, .int .i64 (j : Int))]) (fun (j, Iv, iv) => [(8, box b10 (.cells #[.int .i64 (k : Int), .int .i64 rs[k].pl.kind, .slice Iv ((stepIn (rpl rs) (leavesP rs[k].pl.ins (ll E))).take j).length iv] 36)), (10, rowl intCells w.heap.size 3 1 (.slice Iv ((stepIn (rpl rs) (leavesP rs[k].pl.ins (ll E))).take j).length iv) ((stepIn (rpl rs) (leavesP rs[k].pl.ins (ll E))).take j))]) ((0, none, 0)) ?h0 ⟨rfl, trivial⟩ ⟨rfl, rfl, rfl, rfl, rfl, rfl, rfl, rfl, rfl, rfl, trivial⟩ rfl ?round
          case h0 => exact Nat.zero_le _
          case round =>
            rintro ⟨j, Iv, iv⟩ hφ σ
            have hj : j ≤ (leavesP rs[k].pl.ins (ll E)).length := hφ
            refine gT [box b3 _, rowl _ _ _ _ _ _, fr, box b5 _, rowl _ _ _ _ _ _, rowl _ _ _ _ _ _, fs, box b9 _, box _ _, rowl _ _ _ _ _ _, rowl _ _ _ _ _ _] rfl ?_
            refine gseq fun N20 hN20 => ?_
            refine greg ?_
            refine gop (y_lss rfl rfl) rfl rfl rfl ?_
            refine gops_nil ?_
            refine hN20 _ _ ?_
            refine gfrom [(3, .pointer _), (4, .slice _ _ _), (6, .slice (some _) _ _), (7, .slice Av _ cv), (10, .pointer _), (25, .slice _ _ _), (26, .int _ _), (27, .int _ _), (46, .slice A46 _ c46), (47, .int _ _), (48, .int _ _), (49, .bool _)] ⟨rfl, rfl, rfl, rfl, rfl, rfl, rfl, rfl, rfl, rfl, rfl, rfl, trivial⟩ fun σ => ?_
            refine gseq fun N21 hN21 => ?_
            refine gcond (b := _) rfl (fun hc49 => ?_) (fun hc49 => ?_)
            · 
              replace hc49 := of_decide_eq_true hc49
              have hj1 : j < (leavesP rs[k].pl.ins (ll E)).length := by omega
              obtain ⟨g46, rfl⟩ := hg46 (by omega)
              obtain ⟨hx0, hx1, r, hxr, hx6⟩ := hown _ (List.getElem_mem hj1)
              obtain ⟨hxl, hxs⟩ := st_low (v := (ss.length : Int)) hst2 hst hx0 hx1 hxr hx6
              refine gskip ?_
              refine hN21 _ _ ?_
              refine gfrom [(3, .pointer _), (4, .slice _ _ _), (6, .slice (some _) _ _), (7, .slice Av _ cv), (10, .pointer _), (25, .slice _ _ _), (26, .int _ _), (27, .int _ _), (46, .slice (some ⟨g46, 0, none⟩) _ c46), (47, .int _ _), (48, .int _ _)] ⟨rfl, rfl, rfl, rfl, rfl, rfl, rfl, rfl, rfl, rfl, rfl, trivial⟩ fun σ => ?_
              refine gseq fun N22 hN22 => ?_
              refine gblock ?_
              refine gseq fun N23 hN23 => ?_
              refine greg ?_
              refine gop (y_indexAddr (m := j) Tryd.underlying28 Tryd.sizeOf3 rfl rfl (by omega) (by omega) (by omega)) rfl rfl rfl ?_
              refine gop (y_load Tryd.isAgg3 rfl (cells_rowl 9 (f := intCells) (l := leavesP rs[k].pl.ins (ll E)) rfl rfl (fun _ => rfl) (List.getElem?_eq_getElem hj1) 0 _ rfl)) rfl rfl rfl ?_
              refine gop (y_assign (v := .int _ _) rfl) rfl rfl rfl ?_
              refine gops_nil ?_
              refine hN23 _ _ ?_
              refine gfrom [(3, .pointer _), (4, .slice _ _ _), (6, .slice (some _) _ _), (7, .slice Av _ cv), (10, .pointer _), (12, .int _ _), (25, .slice _ _ _), (26, .int _ _), (27, .int _ _), (46, .slice (some ⟨g46, 0, none⟩) _ c46), (47, .int _ _), (48, .int _ _)] ⟨rfl, rfl, rfl, rfl, rfl, rfl, rfl, rfl, rfl, rfl, rfl, rfl, trivial⟩ fun σ => ?_
              refine greg_e1 [9] [(10, emp)] (by kernel_rfl) ?_
              refine ge_take 0 (TK := [box b3 _, rowl _ _ _ _ _ _, fr, box b5 _, rowl _ _ _ _ _ _, rowl _ _ _ _ _ _, fs, box b9 _, box _ _, rowl _ _ _ _ _ _, emp]) rfl (by kernel_rfl) (by kernel_rfl) (by kernel_rfl) #[false, false, true, true, true, true, true, false, false, false] (by kernel_rfl) rfl (y_fieldAddr_box fa36_2 rfl) rfl rfl rfl (weak_emp 10 rfl) (listed' := #[true, false, false, false, false, false, false, false, false, false]) rfl ?_
              refine ge_take 1 (TK := [box b3 _, rowl _ _ _ _ _ _, fr, box b5 _, rowl _ _ _ _ _ _, rowl _ _ _ _ _ _, fs, box b9 _, box _ _, rowl _ _ _ _ _ _, emp]) rfl (by kernel_rfl) (by kernel_rfl) (by kernel_rfl) #[true, false, true, true, true, true, true, false, false, false] (by kernel_rfl) rfl (y_load Tryd.isAgg28 rfl (cell_box 8 rfl rfl)) rfl rfl rfl (weak_emp 10 rfl) (listed' := #[true, true, false, false, false, false, false, false, false, false]) rfl ?_
              refine ge_take 2 (TK := [box b3 _, rowl _ _ _ _ _ _, fr, box b5 _, rowl _ _ _ _ _ _, rowl _ _ _ _ _ _, fs, box b9 _, box _ _, rowl _ _ _ _ _ _, emp]) rfl (by kernel_rfl) (by kernel_rfl) (by kernel_rfl) #[true, true, false, true, false, false, false, false, false, false] (by kernel_rfl) rfl (y_move (v := .slice (some _) _ _) rfl) rfl rfl rfl (weak_emp 10 rfl) (listed' := #[true, true, true, false, false, false, false, false, false, false]) rfl ?_
              refine ge_take 3 (TK := [box b3 _, rowl _ _ _ _ _ _, fr, box b5 _, rowl _ _ _ _ _ _, rowl _ _ _ _ _ _, fs, box b9 _, box _ _, rowl _ _ _ _ _ _, emp]) rfl (by kernel_rfl) (by kernel_rfl) (by kernel_rfl) #[true, true, true, false, false, false, false, false, false, false] (by kernel_rfl) rfl (y_move (v := .int _ _) rfl) rfl rfl rfl (weak_emp 10 rfl) (listed' := #[true, true, true, true, false, false, false, false, false, false]) rfl ?_
              refine ge_take 4 (TK := [box b3 _, rowl _ _ _ _ _ _, fr, box b5 _, rowl _ _ _ _ _ _, rowl _ _ _ _ _ _, fs, box b9 _, box _ _, rowl _ _ _ _ _ _, emp]) rfl (by kernel_rfl) (by kernel_rfl) (by kernel_rfl) #[true, true, true, true, false, false, false, false, false, false] (by kernel_rfl) rfl (y_indexAddr (m := (leavesP rs[k].pl.ins (ll E))[j].toNat) Tryd.underlying28 Tryd.sizeOf3 rfl rfl (by omega) (by omega) (by omega)) rfl rfl rfl (weak_emp 10 rfl) (listed' := #[true, true, true, true, true, false, false, false, false, false]) rfl ?_
              refine ge_take 5 (TK := [box b3 _, rowl _ _ _ _ _ _, fr, box b5 _, rowl _ _ _ _ _ _, rowl _ _ _ _ _ _, fs, box b9 _, box _ _, rowl _ _ _ _ _ _, emp]) rfl (by kernel_rfl) (by kernel_rfl) (by kernel_rfl) #[true, true, true, true, true, false, false, false, false, false] (by kernel_rfl) rfl (y_load Tryd.isAgg3 rfl (cells_rowl 4 (f := intCells) (l := st.set k (ss.length : Int)) rfl (by simp [hst]) (fun _ => rfl) hxs 0 _ rfl)) rfl rfl rfl (weak_emp 10 rfl) (listed' := #[true, true, true, true, true, true, false, false, false, false]) rfl ?_
              refine ge_one 6 (k' := 0) (listed' := #[true, true, true, true, true, true, true, false, false, false]) (by kernel_rfl) rfl rfl rfl ?_
              refine gop_lit (vs := [.int _ _]) (cells := #[_]) Tryd.underlying28 Tryd.sizeOf3 Tryd.zeroValue3 rfl (by decide) (by decide) rfl rfl rfl rfl (fun b58 hb58 => ?_)
              refine gops_nil ?_
              refine ge_fin (TK := [box b3 _, rowl _ _ _ _ _ _, fr, box b5 _, rowl _ _ _ _ _ _, rowl _ _ _ _ _ _, fs, box b9 _, box _ _, rowl _ _ _ _ _ _, emp]) rfl (weak_trans (weak_take (T' := [box b3 _, rowl _ _ _ _ _ _, fr, box b5 _, rowl _ _ _ _ _ _, rowl _ _ _ _ _ _, fs, box b9 _, box _ _, rowl _ _ _ _ _ _, rowl _ _ _ _ _ _]) rfl) (weak_emp 10 rfl)) ?_
              refine ge_one 7 (k' := 0) (listed' := #[true, true, true, true, true, true, true, true, false, false]) (by kernel_rfl) rfl rfl rfl ?_
              refine gop_append 10 (f := intCells) (l2 := [(cntR (rpl rs) (leavesP rs[k].pl.ins (ll E))[j].toNat : Int)]) Tryd.underlying28 el3 wide_int (v := .slice _ _ _) rfl rfl rfl rfl (fun h => by cases h) (by simp [maxLen]; omega) (by simp; omega) (src_box 11 rfl rfl) rfl (fun v59 => ?_)
              refine gops_fact (fun w hM => own_form (hM.own 10 rfl)) ?_
              rintro ⟨A59, c59, rfl, hc59, hm59⟩
              refine gops_nil ?_
              refine ge_fin (TK := [box b3 _, rowl _ _ _ _ _ _, fr, box b5 _, rowl _ _ _ _ _ _, rowl _ _ _ _ _ _, fs, box b9 _, box _ _, rowl _ _ _ _ _ _, emp]) rfl (weak_trans (weak_take (T' := [box b3 _, rowl _ _ _ _ _ _, fr, box b5 _, rowl _ _ _ _ _ _, rowl _ _ _ _ _ _, fs, box b9 _, box _ _, rowl _ _ _ _ _ _, rowl _ _ _ _ _ _]) rfl) (weak_emp 10 rfl)) ?_
              refine ge_take 8 (TK := [box b3 _, rowl _ _ _ _ _ _, fr, box b5 _, rowl _ _ _ _ _ _, rowl _ _ _ _ _ _, fs, box b9 _, box _ _, rowl _ _ _ _ _ _, emp]) rfl (by kernel_rfl) (by kernel_rfl) (by kernel_rfl) #[true, true, true, true, true, true, true, true, false, false] (by kernel_rfl) rfl (y_fieldAddr_box fa36_2 rfl) rfl rfl rfl (weak_trans (weak_take (T' := [box b3 _, rowl _ _ _ _ _ _, fr, box b5 _, rowl _ _ _ _ _ _, rowl _ _ _ _ _ _, fs, box b9 _, box _ _, rowl _ _ _ _ _ _, rowl _ _ _ _ _ _]) rfl) (weak_emp 10 rfl)) (listed' := #[true, true, true, true, true, true, true, true, true, false]) rfl ?_
              refine ge_one 9 (k' := 1) (listed' := #[true, true, true, true, true, true, true, true, true, true]) (by kernel_rfl) rfl rfl rfl ?_
              refine gop_store 8 (v := .slice A59 _ c59) (cs' := #[_, _, _]) rfl rfl Tryd.sizeOf28 rfl rfl rfl rfl (Nat.le_of_ble_eq_true rfl) rfl rfl ?_
              refine gops_nil ?_
              refine ge_fin (TK := []) rfl (weak_nil) ?_
              refine ge_done (by kernel_rfl) ?_
              refine hN22 _ _ ?_
              refine gT [box b3 _, rowl _ _ _ _ _ _, fr, box b5 _, rowl _ _ _ _ _ _, rowl _ _ _ _ _ _, fs, box b9 _, box _ _, rowl _ _ _ _ _ _, rowl _ _ _ _ _ _, box b58 _] rfl ?_
              refine gfrom [(3, .pointer _), (4, .slice _ _ _), (6, .slice (some _) _ _), (7, .slice Av _ cv), (10, .pointer _), (25, .slice _ _ _), (26, .int _ _), (27, .int _ _), (46, .slice (some ⟨g46, 0, none⟩) _ c46), (47, .int _ _), (48, .int _ _)] ⟨rfl, rfl, rfl, rfl, rfl, rfl, rfl, rfl, rfl, rfl, rfl, trivial⟩ fun σ => ?_
              refine greg ?_
              refine gop (y_add rfl rfl ⟨by omega, by omega⟩) rfl rfl rfl ?_
              refine gop (y_move (v := .int _ _) rfl) rfl rfl rfl ?_
              refine gops_nil ?_
              rw [← stepIn_succ hj1]
              refine gnext2 ((j + 1, A59, c59)) (by show (leavesP rs[k].pl.ins (ll E)).length - (j + 1) < (leavesP rs[k].pl.ins (ll E)).length - j; omega) (show j + 1 ≤ _ by omega) ⟨rfl, trivial⟩ ⟨rfl, rfl, rfl, rfl, rfl, rfl, rfl, rfl, rfl, rfl, trivial⟩ ⟨_, rfl⟩
            · 
              replace hc49 := of_decide_eq_false hc49
              refine g_fact (fun w hM => row_form (hM.ok _ (List.mem_of_getElem? (i := 10) rfl))) ?_
              rintro ⟨A9, c9, hv9, hc9, hm9, hn9⟩
              simp only [Value.slice.injEq] at hv9
              obtain ⟨rfl, -, rfl⟩ := hv9
              have htk : (stepIn (rpl rs) (leavesP rs[k].pl.ins (ll E))).take j = stepIn (rpl rs) (leavesP rs[k].pl.ins (ll E)) := List.take_of_length_le (by rw [stepIn_len]; omega)
              rw [htk] at hc9 ⊢
              refine gexit ?_
              refine hN18 _ _ ?_
              refine gfrom [(3, .pointer _), (4, .slice _ _ _), (6, .slice (some _) _ _), (7, .slice Av _ cv), (10, .pointer _), (25, .slice _ _ _), (26, .int _ _), (27, .int _ _)] ⟨rfl, rfl, rfl, rfl, rfl, rfl, rfl, rfl, trivial⟩ fun σ => ?_
              refine greg ?_
              refine gop (y_move (v := .slice Av _ cv) rfl) rfl rfl rfl ?_
              refine gop (y_loads (cs := [_, _, _]) Tryd.isAgg36 Tryd.sizeOf36 rfl rfl (cells_box 8 rfl)) rfl rfl rfl ?_
              refine gop_lit (vs := [.agg #[_, _, _]]) (cells := #[_, _, _]) Tryd.underlying23 Tryd.sizeOf36 Tryd.zeroValue36 rfl (by decide) (by decide) rfl rfl rfl rfl (fun b64 hb64 => ?_)
              refine gop_append 5 (f := stepCells) (l2 := [⟨⟨(k : Int), rs[k].pl.kind, stepIn (rpl rs) (leavesP rs[k].pl.ins (ll E))⟩, Iv, iv⟩]) Tryd.underlying23 el36 wide_step (v := .slice Av _ cv) rfl rfl rfl rfl (fun h => by cases h) (by simp [maxLen]; omega) (by simp; omega) (src_box 11 rfl rfl) rfl (fun v65 => ?_)
              refine gops_fact (fun w hM => own_form (hM.own 5 rfl)) ?_
              rintro ⟨A65, c65, rfl, hc65, hm65⟩
              refine gop (y_assign (v := .slice A65 _ c65) rfl) rfl rfl rfl ?_
              refine gops_nil ?_
              refine hN12 _ _ ?_
              refine gT [box b3 _, rowl _ _ _ _ _ _, fr, box b5 _, rowl _ _ _ _ _ _, rowl _ _ _ _ _ _, fs, box b9 _, box _ _, rowl _ _ _ _ _ _, rowl _ _ _ _ _ _, box b64 _] rfl ?_
              refine gfrom [(3, .pointer _), (4, .slice _ _ _), (6, .slice (some _) _ _), (7, .slice A65 _ c65), (25, .slice _ _ _), (26, .int _ _), (27, .int _ _)] ⟨rfl, rfl, rfl, rfl, rfl, rfl, rfl, trivial⟩ fun σ => ?_
              refine greg ?_
              refine gop (y_add rfl rfl ⟨by omega, by omega⟩) rfl rfl rfl ?_
              refine gop (y_move (v := .int _ _) rfl) rfl rfl rfl ?_
              refine gops_nil ?_
              refine fin_mem _ (weak_all 7 6 rfl) ?_
              refine gnext2 ((k + 1, A65, c65, ss ++ [⟨⟨(k : Int), rs[k].pl.kind, stepIn (rpl rs) (leavesP rs[k].pl.ins (ll E))⟩, Iv, iv⟩], st.set k (ss.length : Int), both fs (all_ [_, _, _, _, _]))) (by show rs.length - (k + 1) < rs.length - k; omega) (⟨by show k + 1 ≤ _; omega, cntR_take hk1 hsl h6 (by simp), by simp [hst], st_take hst2 hst hsl, steps_snoc hsok (hsl ▸ step_okC heo hel hk1 h6), fun w1 ho s hs => ?hr⟩) ⟨rfl, rfl, trivial⟩ ⟨rfl, rfl, rfl, rfl, rfl, trivial⟩ ⟨_, rfl⟩
              case hr =>
                rcases List.mem_append.1 hs with hs | hs
                · exact hfs w1 ho.1 s hs
                · obtain rfl := List.mem_singleton.1 hs
                  exact ⟨row_rdl (f := intCells) (fun _ => rfl) ho.2.2.2.2.1, hn9, hc9, hm9⟩
      · 
        replace hc28 := of_decide_eq_false hc28
        refine gexit ?_
        refine hN8 _ _ ?_
        refine gfrom [(3, .pointer _), (7, .slice Av _ cv)] ⟨rfl, rfl, trivial⟩ fun σ => ?_
        refine gseq fun N24 hN24 => ?_
        refine greg ?_
        refine gop (y_move (v := .slice Av _ cv) rfl) rfl rfl rfl ?_
        refine gop (y_build (vs := []) (cells := #[.int .i64 0, .int .i64 0]) rfl bd25_) rfl rfl rfl ?_
        refine gop (y_assign (v := .slice Av _ cv) rfl) rfl rfl rfl ?_
        refine gop_store 0 (v := .agg #[_, _]) (cs' := #[_, _]) rfl rfl Tryd.sizeOf25 rfl rfl rfl rfl (Nat.le_of_ble_eq_true rfl) rfl rfl ?_
        refine gops_nil ?_
        refine hN24 _ _ ?_
        refine gT [box b3 _, rowl _ _ _ _ _ _, fr, box b5 _, rowl _ _ _ _ _ _, rowl _ _ _ _ _ _, fs] rfl ?_
        refine gfrom [(2, .slice Av _ cv), (3, .pointer _)] ⟨rfl, rfl, trivial⟩ fun σ => ?_
        refine gret fun w1 hM => ?_
        refine ⟨_, res2 rfl (rt (v := .slice Av _ cv) rfl) (rc 0 (cs := [_, _]) hM rfl rfl Tryd.isAgg25 Tryd.sizeOf25 rfl), ?_⟩
        have hke : k = rs.length := by omega
        subst hke
        have hcn := cntR_le (rpl rs) rs.length
        have hrl : (rpl rs).length = rs.length := by simp
        exact ⟨_, _, ss, fs, 0, 0, rfl, rfl, hfs, hsok, fun h => absurd rfl h, fun _ h2 => ⟨rfl, by rw [hsl]; have h9 := cntR_all (rs := rpl rs) (fun r hr => by obtain ⟨r0, hr0, rfl⟩ := List.mem_map.1 hr; exact (h2 r0 hr0).1); rw [hrl] at h9; exact h9⟩, by omega, hM.dropTo 5 rfl⟩
end Go.Proofs.YtlmhppnbcbadbaaDoor
namespace Go.Proofs.YtlmhppnbcbadbaaDoor
open Go.RowKit Go.Cf
set_option maxRecDepth 10000
set_option maxHeartbeats 1000000 in
theorem refInts_any (w : World) (A B : Option Addr) (c c' : Nat) (l m : List Int) (hA : Rdl w 0 1 intCells A l) (hB : Rdl w 0 1 intCells B m) (hl : l.length ≤ maxLen) :
    Calls Tryd.prog 6 #[.slice A l.length c, .slice B m.length c'] w fun e w' => e = .returned (.bool (decide (l = m))) ∧ Below w.heap.size w w' := by
  unfold maxLen at hl
  refine gcalls Tryd.func6 rfl Tryd.ntmps6 (Nat.le_of_ble_eq_true rfl) ?_
  refine gfrom [(0, .slice _ _ _), (1, .slice _ _ _)] ⟨rfl, rfl, trivial⟩ fun σ => ?_
  refine gseq fun N1 hN1 => ?_
  refine greg ?_
  refine gop (y_assign (v := .bool _) rfl) rfl rfl rfl ?_
  refine gops_nil ?_
  refine hN1 _ _ ?_
  refine gfrom [(0, .slice _ _ _), (1, .slice _ _ _)] ⟨rfl, rfl, trivial⟩ fun σ => ?_
  refine gseq fun N2 hN2 => ?_
  refine gseq fun N3 hN3 => ?_
  refine greg ?_
  refine gop (y_move (v := .slice _ _ _) rfl) rfl rfl rfl ?_
  refine gop (y_len Tryd.underlying28 rfl) rfl rfl rfl ?_
  refine gop (y_move (v := .slice _ _ _) rfl) rfl rfl rfl ?_
  refine gop (y_len Tryd.underlying28 rfl) rfl rfl rfl ?_
  refine gop (y_neq rfl rfl) rfl rfl rfl ?_
  refine gops_nil ?_
  refine hN3 _ _ ?_
  refine gfrom [(0, .slice _ _ _), (1, .slice _ _ _), (10, .bool _)] ⟨rfl, rfl, rfl, trivial⟩ fun σ => ?_
  refine gcond (b := _) rfl (fun hc10 => ?_) (fun hc10 => ?_)
  · 
    replace hc10 := of_decide_eq_true hc10
    refine gseq fun N4 hN4 => ?_
    refine greg ?_
    refine gop (y_assign (v := .bool _) rfl) rfl rfl rfl ?_
    refine gops_nil ?_
    refine hN4 _ _ ?_
    refine gfrom [(4, .bool _)] ⟨rfl, trivial⟩ fun σ => ?_
    refine gret fun w1 hM => ?_
    refine ⟨_, res1 rfl (rt (v := .bool _) rfl), ?_⟩
    exact ⟨by rw [decide_eq_false (fun e => by subst e; omega)], hM.low⟩
  · 
    replace hc10 := Decidable.not_not.1 (of_decide_eq_false hc10)
    refine gskip ?_
    refine hN2 _ _ ?_
    refine gfrom [(0, .slice _ _ _), (1, .slice _ _ _)] ⟨rfl, rfl, trivial⟩ fun σ => ?_
    refine gseq fun N5 hN5 => ?_
    refine gseq fun N6 hN6 => ?_
    refine greg ?_
    refine gop (y_assign (v := .int _ _) rfl) rfl rfl rfl ?_
    refine gops_nil ?_
    refine hN6 _ _ ?_
    refine gfrom [(0, .slice _ _ _), (1, .slice _ _ _), (5, .int _ _)] ⟨rfl, rfl, rfl, trivial⟩ fun σ => ?_
    refine gblock ?_
    refine gfrom2 [(5, .int _ _)] [(0, .slice _ _ _), (1, .slice _ _ _)] ⟨rfl, trivial⟩ ⟨rfl, rfl, trivial⟩ fun σ => ?_
    refine gloop2 (G := Nat) (fun k => k ≤ l.length ∧ l.length = m.length ∧ l.take k = m.take k) (fun k => l.length - k) (fun k => [(5, .int .i64 (k : Int))]) (fun k => []) (0) ?h0 ⟨rfl, trivial⟩ ⟨rfl, rfl, trivial⟩ rfl ?round
    case h0 => exact ⟨Nat.zero_le _, by omega, by simp⟩
    case round =>
      intro k hφ σ
      obtain ⟨hk, hlm, htk⟩ := hφ
      refine gseq fun N7 hN7 => ?_
      refine gseq fun N8 hN8 => ?_
      refine greg ?_
      refine gop (y_move (v := .int _ _) rfl) rfl rfl rfl ?_
      refine gop (y_move (v := .slice _ _ _) rfl) rfl rfl rfl ?_
      refine gop (y_len Tryd.underlying28 rfl) rfl rfl rfl ?_
      refine gop (y_lss rfl rfl) rfl rfl rfl ?_
      refine gops_nil ?_
      refine hN8 _ _ ?_
      refine gfrom [(0, .slice _ _ _), (1, .slice _ _ _), (5, .int _ _), (14, .bool _)] ⟨rfl, rfl, rfl, rfl, trivial⟩ fun σ => ?_
      refine gcond (b := _) rfl (fun hc14 => ?_) (fun hc14 => ?_)
      · 
        replace hc14 := of_decide_eq_true hc14
        have hk1 : k < l.length := by omega
        obtain ⟨ad, rfl, -, hca⟩ := hA.at_ hk1
        obtain ⟨ad', rfl, -, hcb⟩ := hB.at_ (k := k) (by omega)
        refine gskip ?_
        refine hN7 _ _ ?_
        refine gfrom [(0, .slice _ _ _), (1, .slice _ _ _), (5, .int _ _)] ⟨rfl, rfl, rfl, trivial⟩ fun σ => ?_
        refine gseq fun N9 hN9 => ?_
        refine gblock ?_
        refine gseq fun N10 hN10 => ?_
        refine greg_q (by kernel_rfl) (by kernel_rfl) ?_
        refine gq (y_move (v := .slice _ _ _) rfl) rfl rfl rfl ?_
        refine gq (y_move (v := .int _ _) rfl) rfl rfl rfl ?_
        refine gq (y_indexAddr Tryd.underlying28 Tryd.sizeOf3 rfl rfl rfl (by omega) (by omega)) rfl rfl rfl ?_
        refine gq (y_load Tryd.isAgg3 rfl (cell_base (hca 0 _ rfl))) rfl rfl rfl ?_
        refine gq (y_move (v := .slice _ _ _) rfl) rfl rfl rfl ?_
        refine gq (y_move (v := .int _ _) rfl) rfl rfl rfl ?_
        refine gq (y_indexAddr Tryd.underlying28 Tryd.sizeOf3 rfl rfl rfl (by omega) (by omega)) rfl rfl rfl ?_
        refine gq (y_load Tryd.isAgg3 rfl (cell_base (hcb 0 _ rfl))) rfl rfl rfl ?_
        refine gq (y_neq rfl rfl) rfl rfl rfl ?_
        refine gqs_nil ?_
        refine hN10 _ _ ?_
        refine gfrom [(0, .slice _ _ _), (1, .slice _ _ _), (5, .int _ _), (25, .bool _)] ⟨rfl, rfl, rfl, rfl, trivial⟩ fun σ => ?_
        refine gcond (b := _) rfl (fun hc25 => ?_) (fun hc25 => ?_)
        · 
          replace hc25 := of_decide_eq_true hc25
          refine gseq fun N11 hN11 => ?_
          refine greg ?_
          refine gop (y_assign (v := .bool _) rfl) rfl rfl rfl ?_
          refine gops_nil ?_
          refine hN11 _ _ ?_
          refine gfrom [(4, .bool _)] ⟨rfl, trivial⟩ fun σ => ?_
          refine gret fun w1 hM => ?_
          refine ⟨_, res1 rfl (rt (v := .bool _) rfl), ?_⟩
          exact ⟨by rw [decide_eq_false (ne_of_at hk1 (by omega) hc25)], hM.low⟩
        · 
          replace hc25 := Decidable.not_not.1 (of_decide_eq_false hc25)
          refine gskip ?_
          refine hN9 _ _ ?_
          refine gfrom [(0, .slice _ _ _), (1, .slice _ _ _), (5, .int _ _)] ⟨rfl, rfl, rfl, trivial⟩ fun σ => ?_
          refine greg ?_
          refine gop (y_move (v := .int _ _) rfl) rfl rfl rfl ?_
          refine gop (y_add rfl rfl ⟨by omega, by omega⟩) rfl rfl rfl ?_
          refine gop (y_assign (v := .int _ _) rfl) rfl rfl rfl ?_
          refine gops_nil ?_
          refine gnext2 (k + 1) (by omega) (⟨by omega, hlm, take_next l m k (by omega) (by omega) htk hc25⟩) ⟨rfl, trivial⟩ ⟨rfl, rfl, trivial⟩ ⟨_, rfl⟩
      · 
        replace hc14 := of_decide_eq_false hc14
        refine gexit ?_
        refine hN5 _ _ ?_
        refine gfrom [] trivial fun σ => ?_
        refine gseq fun N12 hN12 => ?_
        refine greg ?_
        refine gop (y_assign (v := .bool _) rfl) rfl rfl rfl ?_
        refine gops_nil ?_
        refine hN12 _ _ ?_
        refine gfrom [(4, .bool _)] ⟨rfl, trivial⟩ fun σ => ?_
        refine gret fun w1 hM => ?_
        refine ⟨_, res1 rfl (rt (v := .bool _) rfl), ?_⟩
        exact ⟨by rw [decide_eq_true (eq_of_takes hlm (by omega) htk)], hM.low⟩
end Go.Proofs.YtlmhppnbcbadbaaDoor
