/- Own frame, plain models and walks, part 6 (texts of this claim put together). -/
import Derived.Test.YtbkameioedmlkaaGreatDoorP36e
import Derived.Test.YtbkameioedmlkaaGreatDoorRows
namespace Go.Cf
open Go.RowKit
structure FsC where
  A : Option Addr
  c : Nat
  fs : List FileC
abbrev fsCells (x : FsC) : List Value := [.slice x.A x.fs.length x.c]
def catFs (l : List FsC) : List FileC := l.flatMap FsC.fs
theorem catFs_succ {l : List FsC} {k : Nat} (hk : k < l.length) : catFs (l.take (k + 1)) = catFs (l.take k) ++ l[k].fs := by
  unfold catFs
  rw [List.take_succ_eq_append_getElem hk, List.flatMap_append]; simp
theorem catFs_n {l : List FsC} {k : Nat} (hk : k < l.length) : ((catFs (l.take (k + 1))).length : Int) = (catFs (l.take k)).length + (l[k].fs.length : Int) := by
  rw [catFs_succ hk, List.length_append]; omega
theorem catFs_le {l : List FsC} (h : ∀ x ∈ l, x.fs.length ≤ 24) : ∀ k, (catFs (l.take k)).length ≤ 24 * k
  | 0 => by simp [catFs]
  | k + 1 => by
    rcases Nat.lt_or_ge k l.length with hk | hk
    · rw [catFs_succ hk, List.length_append]
      have h1 := catFs_le h k
      have h2 := h _ (List.getElem_mem hk)
      omega
    · rw [List.take_of_length_le (by omega), ← List.take_of_length_le (l := l) hk]
      have h1 := catFs_le h k
      omega
def chgTo (a b : List FileP) (k : Nat) : List ByteArray := (((a ++ b).map FileP.path).take k).filter (diffAt a b)
theorem chgTo_len (a b : List FileP) (k : Nat) : (chgTo a b k).length ≤ k := Nat.le_trans (List.length_filter_le _ _) (by simp; omega)
theorem chg_at {fs gs : List FileC} {k : Nat} (hk : k < (fs ++ gs).length) : (((fpl fs ++ fpl gs).map FileP.path)[k]'(by simpa using hk)) = (fs ++ gs)[k].pl.path := by
  have e : (fpl fs ++ fpl gs).map FileP.path = (fs ++ gs).map fun f => f.pl.path := by
    simp only [List.map_append, List.map_map]; rfl
  simp only [e, List.getElem_map]
theorem chgTo_yes {fs gs : List FileC} {k : Nat} (hk : k < (fs ++ gs).length) (h : diffAt (fpl fs) (fpl gs) (fs ++ gs)[k].pl.path = true) : chgTo (fpl fs) (fpl gs) (k + 1) = chgTo (fpl fs) (fpl gs) k ++ [(fs ++ gs)[k].pl.path] := by
  unfold chgTo
  rw [List.take_succ_eq_append_getElem (by simpa using hk), List.filter_append, chg_at hk]
  congr 1
  exact List.filter_cons_of_pos h
theorem chgTo_no {fs gs : List FileC} {k : Nat} (hk : k < (fs ++ gs).length) (h : diffAt (fpl fs) (fpl gs) (fs ++ gs)[k].pl.path = false) : chgTo (fpl fs) (fpl gs) (k + 1) = chgTo (fpl fs) (fpl gs) k := by
  unfold chgTo
  rw [List.take_succ_eq_append_getElem (by simpa using hk), List.filter_append, chg_at hk]
  rw [List.filter_cons_of_neg (by rw [h]; decide)]
  exact List.append_nil _
theorem chgTo_all {fs gs : List FileC} {k : Nat} (hk : ¬ k < (fs ++ gs).length) : leafS (chgTo (fpl fs) (fpl gs) k) = chgL (fpl fs) (fpl gs) := by
  unfold chgTo chgL
  rw [List.take_of_length_le (by simp at hk ⊢; omega)]
theorem find_none_of {fs : List FileC} {p : ByteArray} (h : ∀ f ∈ fs, f.pl.path ≠ p) : findP (fpl fs) p = none := findP_none.2 fun f hf => by
  obtain ⟨g, hg, rfl⟩ := List.mem_map.1 hf
  exact h g hg
theorem find_some_of {fs : List FileC} (v : VTree (fpl fs)) {p : ByteArray} {k : Nat} (hk : k < fs.length) (hp : fs[k].pl.path = p) : findP (fpl fs) p = some fs[k].pl := by
  have h1 := findP_at v (k := k) (by simpa using hk)
  rw [List.getElem_map, hp] at h1
  exact h1
theorem diff_left {fs : List FileC} {b : List FileP} {p : ByteArray} (h : ∀ f ∈ fs, f.pl.path ≠ p) : diffAt (fpl fs) b p = true := by
  rw [diffAt, find_none_of h]
theorem diff_right {gs : List FileC} {a : List FileP} {p : ByteArray} (h : ∀ f ∈ gs, f.pl.path ≠ p) : diffAt a (fpl gs) p = true := by
  rw [diffAt, find_none_of h]
  cases findP a p <;> rfl
theorem diff_both {fs gs : List FileC} (v : VTree (fpl fs)) (v2 : VTree (fpl gs)) {p : ByteArray} {i j : Nat} (hi : i < fs.length) (hp : fs[i].pl.path = p) (hj : j < gs.length) (hq : gs[j].pl.path = p) :
    diffAt (fpl fs) (fpl gs) p = !decide (fs[i].pl.lines = gs[j].pl.lines) := by
  rw [diffAt, find_some_of v hi hp, find_some_of v2 hj hq]
def doneTo (rs : List Rule) (l : List Appr) (fs : List FileP) (p : ByteArray) (j : Nat) : Bool := decide ((findU rs p).length = 0) || (l.take j).any (coverB (findU rs p) p fs)
section
variable {rs : List Rule} {l : List Appr} {fs : List FileP} {p : ByteArray} {j : Nat} {own : List Int} {a : Appr}
theorem doneTo_zero : decide (((findU rs p).length : Int) = 0) = doneTo rs l fs p 0 := by
  unfold doneTo
  rw [List.take_zero, List.any_nil, Bool.or_false]
  by_cases h : (findU rs p).length = 0
  · rw [decide_eq_true h, decide_eq_true (by omega)]
  · rw [decide_eq_false h, decide_eq_false (by omega)]
theorem doneTo_succ (hj : j < l.length) : doneTo rs l fs p (j + 1) = (doneTo rs l fs p j || coverB (findU rs p) p fs l[j]) := by
  unfold doneTo
  rw [List.take_succ_eq_append_getElem hj, List.any_append, List.any_cons, List.any_nil, Bool.or_false, Bool.or_assoc]
theorem doneTo_all (hj : ¬ j < l.length) : doneTo rs l fs p j = doneB rs l fs p := by
  unfold doneTo doneB
  rw [List.take_of_length_le (by omega)]
theorem cover_yes (h1 : decide (a.dig = descP fs a.path) = true) (h2 : (a.path.toList == p.toList) = true) : coverB own p fs a = hasI own a.user := by
  rw [coverB, h1, decide_eq_true (sb_eq_t h2)]; rfl
theorem cover_no1 (h1 : decide (a.dig = descP fs a.path) = false) : coverB own p fs a = false := by
  rw [coverB, h1]; rfl
theorem cover_no2 (h2 : (a.path.toList == p.toList) = false) : coverB own p fs a = false := by
  rw [coverB, decide_eq_false (sb_ne_f h2), Bool.false_and, Bool.and_false]
theorem done_old (hj : j < l.length) (h : doneTo rs l fs p j = true) : true = doneTo rs l fs p (j + 1) := by rw [doneTo_succ hj, h]; rfl
theorem done_yes (hj : j < l.length) (h : doneTo rs l fs p j = false) (h1 : decide (l[j].dig = descP fs l[j].path) = true) (h2 : (l[j].path.toList == p.toList) = true) : hasI (findU rs p) l[j].user = doneTo rs l fs p (j + 1) := by
  rw [doneTo_succ hj, h, cover_yes h1 h2]; rfl
theorem done_no1 (hj : j < l.length) (h : doneTo rs l fs p j = false) (h1 : decide (l[j].dig = descP fs l[j].path) = false) : false = doneTo rs l fs p (j + 1) := by
  rw [doneTo_succ hj, h, cover_no1 h1]; rfl
theorem done_no2 (hj : j < l.length) (h : doneTo rs l fs p j = false) (h2 : (l[j].path.toList == p.toList) = false) : false = doneTo rs l fs p (j + 1) := by
  rw [doneTo_succ hj, h, cover_no2 h2]; rfl
theorem validV_len (h : validF l fs = ⟨0, 0⟩) : (validV l fs).length = l.length := by rw [validV, if_pos h]; simp [validL]
theorem validV_get (h : validF l fs = ⟨0, 0⟩) (hj : j < l.length) : (validV l fs)[j]? = some (decide (l[j].dig = descP fs l[j].path)) := by
  rw [validV, if_pos h, validL, List.getElem?_map, List.getElem?_eq_getElem hj]; rfl
end
def missTo (rs : List Rule) (l : List Appr) (a b : List FileP) (k : Nat) : List ByteArray := ((chgL a b).take k).filter fun p => !doneB rs l b p
section
variable {rs : List Rule} {l : List Appr} {a b : List FileP} {k : Nat}
theorem missTo_len (rs : List Rule) (l : List Appr) (a b : List FileP) (k : Nat) : (missTo rs l a b k).length ≤ k := Nat.le_trans (List.length_filter_le _ _) (by simp; omega)
theorem missTo_yes (hk : k < (chgL a b).length) (h : (!doneB rs l b (chgL a b)[k]) = true) : missTo rs l a b (k + 1) = missTo rs l a b k ++ [(chgL a b)[k]] := by
  unfold missTo
  rw [List.take_succ_eq_append_getElem hk, List.filter_append]
  congr 1
  exact List.filter_cons_of_pos h
theorem missTo_no (hk : k < (chgL a b).length) (h : (!doneB rs l b (chgL a b)[k]) = false) : missTo rs l a b (k + 1) = missTo rs l a b k := by
  unfold missTo
  rw [List.take_succ_eq_append_getElem hk, List.filter_append, List.filter_cons_of_neg (by rw [h]; decide)]
  exact List.append_nil _
theorem missTo_all (hk : ¬ k < (chgL a b).length) : missTo rs l a b k = missL rs l a b := by
  unfold missTo missL
  rw [List.take_of_length_le (by omega)]
theorem missF_1 {f : Fault} (h : validF l b = f) (hf : f ≠ ⟨0, 0⟩) : missF rs l a b = f := by rw [missF, if_pos (by rw [h]; exact hf), h]
theorem missF_2 (h : validF l b = ⟨0, 0⟩) (hf : secondF (treeF a) (-3) ≠ ⟨0, 0⟩) : missF rs l a b = secondF (treeF a) (-3) := by rw [missF, if_neg (fun h9 => h9 h), if_pos (sec_ne hf)]
theorem missF_3 (h : validF l b = ⟨0, 0⟩) (h2 : treeF a = ⟨0, 0⟩) : missF rs l a b = secondF (rulesF rs) (-4) := by rw [missF, if_neg (fun h9 => h9 h), if_neg (fun h9 => h9 h2)]
end
def fidx (fs : List FileC) (p : ByteArray) : Int := idxP (fun f : FileC => decide (f.pl.path = p)) fs
theorem fidx_hit {fs : List FileC} {p : ByteArray} {k : Nat} (hk : k < fs.length) (h : ∀ j (hj : j < fs.length), j < k → fs[j].pl.path ≠ p) (hp : fs[k].pl.path = p) : fidx fs p = (k : Int) := idxP_hit hk (fun j hj hjk => decide_eq_false (h j hj hjk)) (decide_eq_true hp)
theorem fidx_none {fs : List FileC} {p : ByteArray} (h : ∀ j (hj : j < fs.length), fs[j].pl.path ≠ p) : fidx fs p = -1 := idxP_none fun j hj => decide_eq_false (h j hj)
theorem fidx_neg {fs : List FileC} {p : ByteArray} (h : fidx fs p < 0) : ∀ f ∈ fs, f.pl.path ≠ p := by
  intro f hf hp
  have h1 := idxP_any (fun f : FileC => decide (f.pl.path = p)) fs
  have h2 : fs.any (fun f : FileC => decide (f.pl.path = p)) = true := List.any_eq_true.2 ⟨f, hf, decide_eq_true hp⟩
  rw [h2] at h1
  have h3 := of_decide_eq_true h1
  unfold fidx at h
  omega
theorem fidx_pos {fs : List FileC} {p : ByteArray} (h : ¬ fidx fs p < 0) : ∃ (k : Nat) (hk : k < fs.length), fidx fs p = (k : Int) ∧ fs[k].pl.path = p := by
  by_cases h1 : fs.any (fun f : FileC => decide (f.pl.path = p)) = true
  · have h2 : fs.findIdx (fun f : FileC => decide (f.pl.path = p)) < fs.length := by
      rw [List.findIdx_lt_length]
      exact List.any_eq_true.1 h1
    refine ⟨_, h2, ?_, ?_⟩
    · unfold fidx idxP; rw [if_pos h1]
    · exact of_decide_eq_true (List.findIdx_getElem (w := h2))
  · exfalso
    unfold fidx idxP at h
    rw [if_neg h1] at h
    omega
theorem row_g2 {α : Type} {f : α → List Value} {l : List α} {base size n c : Nat} {e : TypeId} {A : Option Addr} {w : World} (h : (rowl f base e size (.slice A n c) l).ok w) (hl : 0 < l.length) : ∃ g, A = some ⟨g, 0, none⟩ := by
  have ho : w.ownsRow base e size (.slice A n c) l.length (l.flatMap f) := h
  rcases ho.2 with ⟨_, h0⟩ | ⟨g, cap, cur, hv, _⟩
  · omega
  · cases hv; exact ⟨g, rfl⟩
end Go.Cf
namespace Go.Proofs.YtbkameioedmlkaaGreatDoor
open Go.ChangeShapes Go.WideShapes Go.ChangeAt Go.RowKit Go.Cf Go.Deep
theorem bulk_mem {H : Type} {d : DataW H} : ∀ {l : List (DataW H)}, d ∈ l → Rows.uptoBulk d ≤ Rows.uptoBulkAll l
  | [], h => by cases h
  | x :: l, h => by
    simp only [Rows.uptoBulkAll]
    rcases List.mem_cons.1 h with rfl | h
    · omega
    · have := bulk_mem h; omega
theorem rd_slice_b {H : Type} {enc : TypeId × Value → H} {P : Program} {w : World} {t e : TypeId} {v : Value} {d : DataW H} {p : List MemPlace} {b0 N : Nat} {α : Type} {f : α → List Value} {size : Nat} {Q : α → Prop} (ht : P.underlying t = some (.slice e)) (hC : P.cellsOf e = size)
    (hel : ∀ (n : Nat) (cs : List Value) (x : DataW H × List MemPlace), DataW.trod enc P w 0 (fun _ => true) true n e cs = some x → (x.1.weights P e).all (· ≤ reachBytes) = true → Rows.uptoBulk x.1 ≤ N → ∃ a, cs = f a ∧ Q a)
    (hok : Value.okWide P w .any b0 t v) (h : DataW.Trod enc P w 0 (fun _ => true) true t v d p) (hw : (d.weights P t).all (· ≤ reachBytes) = true) (hb : Rows.uptoBulk d ≤ N) :
    ∃ (A : Option Addr) (c : Nat) (l : List α), v = .slice A l.length c ∧ Rdl w 0 size f A l ∧ l.length ≤ c ∧ c ≤ maxLen ∧ (A = none → c = 0) ∧ c * P.bytesOf e ≤ reachBytes ∧ ∀ a ∈ l, Q a := by
  obtain ⟨a0, len0, cap0, rfl⟩ := okWide_slice ht hok
  obtain ⟨fuel, hf⟩ := h
  rcases open_slice ht hf with ⟨h0, h1⟩ | ⟨a, len, cap, m, n, D, Pl, hcs, hblk, hlc, hm, hmm, hx, hi⟩
  · simp only [Value.cells, List.cons.injEq, and_true] at h0
    exact ⟨none, 0, [], by simpa using h0, Rdl.nil, Nat.le_refl _, by unfold maxLen; omega, fun _ => rfl, by simp, fun a ha => by cases ha⟩
  · simp only [if_true] at hmm
    obtain rfl : m = cap := hmm
    have hd := congrArg Prod.fst hx
    simp only at hd
    rw [hd] at hb hw
    simp only [DataW.weights, ht, List.all_cons, List.all_append, Bool.and_eq_true, decide_eq_true_eq, List.length_map, List.length_range] at hw
    obtain ⟨hw1, hw2, _⟩ := hw
    have hw2' := weights_all hw2
    simp only [Rows.uptoBulk] at hb
    obtain ⟨l, hl, hq⟩ := choose_list len (fun i a' => Q a' ∧ ∀ j u, (f a')[j]? = some u → w.cell? (a.add (i * size + j)) = some u) (fun i hlt => by
      obtain ⟨cs', hc, ht'⟩ := hi i (by omega)
      have hmem : D i ∈ (List.range len).map D := List.mem_map.2 ⟨i, by simpa using hlt, rfl⟩
      have hbm := bulk_mem hmem
      obtain ⟨a', he, hqa⟩ := hel n cs' (D i, Pl i) ht' (hw2' (D i) hmem) (show Rows.uptoBulk (D i) ≤ N by omega)
      refine ⟨a', hqa, fun j u hu => ?_⟩
      obtain ⟨_, hcl, hat⟩ := World.cells?_some hc
      rw [← he] at hu
      have hj : j < P.cellsOf e := by
        rcases Nat.lt_or_ge j (P.cellsOf e) with h | h
        · exact h
        · rw [List.getElem?_eq_none (by omega)] at hu; cases hu
      have := hat j hj
      rw [hu, hC, Go.Cf.add_add] at this
      exact this)
    have hlm : len + (m - len) = m := by omega
    rw [hlm] at hw1
    simp only [Value.cells, List.cons.injEq, and_true] at hcs
    refine ⟨some a, m, l, by rw [hcs, hl], fun _ => ⟨a, rfl, Nat.zero_le _, fun k x hk => (hq k x hk).2⟩, by omega, hm, (fun h => by cases h), hw1, fun b hb => ?_⟩
    obtain ⟨k, hk⟩ := List.mem_iff_getElem?.1 hb
    exact (hq k b hk).1
theorem el_str_b {H : Type} {enc : TypeId × Value → H} {P : Program} {w : World} {e : TypeId} {N : Nat} (ht : P.underlying e = some .string) :
    ∀ (n : Nat) (cs : List Value) (x : DataW H × List MemPlace), DataW.trod enc P w 0 (fun _ => true) true n e cs = some x → (x.1.weights P e).all (· ≤ reachBytes) = true → Rows.uptoBulk x.1 ≤ N → ∃ a : ByteArray, cs = strCells a ∧ a.size ≤ N := by
  intro n cs x h _ hb
  obtain ⟨a, h1, h2, _⟩ := DataW.trod_string ht h
  refine ⟨a, h1, ?_⟩
  rw [show x.1 = _ from congrArg Prod.fst h2] at hb
  have : a.data.toList.length = a.size := by rw [Array.length_toList]; rfl
  simp only [Rows.uptoBulk] at hb
  omega
end Go.Proofs.YtbkameioedmlkaaGreatDoor
namespace Go.Proofs.YtbkameioedmlkaaGreatDoor
open Go.RowKit Go.Cf
set_option maxRecDepth 10000
theorem el85 : Elem Tryz.prog 85 2 40 := elem_of (z := .agg #[.string .empty, .slice none 0 0]) (by kernel_rfl) rfl (by decide)
set_option maxHeartbeats 4000000 in
theorem concat_any (w : World) (A : Option Addr) (c : Nat) (l : List FsC) (hl : Rdl w 0 1 fsCells A l) (hn : l.length ≤ 4) (he : ∀ x ∈ l, TreeR w 0 x.A x.c x.fs ∧ x.fs.length ≤ 24) :
    Calls Tryz.prog 71 #[.slice A l.length c] w fun e w' => ∃ v T' lo, e = .returned v ∧ w.heap.size ≤ lo ∧ T' = [rowl fileCells lo 85 2 (v) (catFs l)] ∧ Mem w T' w' := by
  have hcb := catFs_le (fun x hx => (he x hx).2)
  refine gcalls Tryz.func71 rfl Tryz.ntmps71 (Nat.le_of_ble_eq_true rfl) ?_
  refine gfrom [(0, .slice _ _ _)] ⟨rfl, trivial⟩ fun σ => ?_
  refine gseq fun N1 hN1 => ?_
  refine greg ?_
  refine gop (y_assign (v := .slice _ _ _) rfl) rfl rfl rfl ?_
  refine gops_nil ?_
  refine hN1 _ _ ?_
  refine gfrom [(0, .slice _ _ _)] ⟨rfl, trivial⟩ fun σ => ?_
  refine gseq fun N2 hN2 => ?_
  refine greg ?_
  refine gop (y_assign (v := .int _ _) rfl) rfl rfl rfl ?_
  refine gops_nil ?_
  refine hN2 _ _ ?_
  refine gfrom [(0, .slice _ _ _), (3, .int _ _)] ⟨rfl, rfl, trivial⟩ fun σ => ?_
  refine gseq fun N3 hN3 => ?_
  refine gseq fun N4 hN4 => ?_
  refine greg ?_
  refine gop (y_move (v := .slice _ _ _) rfl) rfl rfl rfl ?_
  refine gop (y_len Tryz.underlying176 rfl) rfl rfl rfl ?_
  refine gop (y_move (v := .int _ _) rfl) rfl rfl rfl ?_
  refine gops_nil ?_
  refine hN4 _ _ ?_
  refine gfrom [(0, .slice _ _ _), (3, .int _ _), (9, .slice _ _ _), (10, .int _ _), (11, .int _ _)] ⟨rfl, rfl, rfl, rfl, rfl, trivial⟩ fun σ => ?_
  refine gblock ?_
  refine gfrom2 [(3, .int _ _), (11, .int _ _)] [(0, .slice _ _ _), (9, .slice _ _ _), (10, .int _ _)] ⟨rfl, rfl, trivial⟩ ⟨rfl, rfl, rfl, trivial⟩ fun σ => ?_
  refine gloop2 (G := Nat) (fun k => k ≤ l.length) (fun k => l.length - k) (fun k => [(3, .int .i64 ((catFs (l.take k)).length : Int)), (11, .int .i64 (k : Int))]) (fun k => []) (0) ?h0 ⟨rfl, rfl, trivial⟩ ⟨rfl, rfl, rfl, trivial⟩ rfl ?round
  case h0 => exact Nat.zero_le _
  case round =>
    intro k hφ σ
    have hk : k ≤ l.length := hφ
    refine gseq fun N5 hN5 => ?_
    refine greg ?_
    refine gop (y_lss rfl rfl) rfl rfl rfl ?_
    refine gops_nil ?_
    refine hN5 _ _ ?_
    refine gfrom [(0, .slice _ _ _), (3, .int _ _), (9, .slice _ _ _), (10, .int _ _), (11, .int _ _), (12, .bool _)] ⟨rfl, rfl, rfl, rfl, rfl, rfl, trivial⟩ fun σ => ?_
    refine gseq fun N6 hN6 => ?_
    refine gcond (b := _) rfl (fun hc12 => ?_) (fun hc12 => ?_)
    · 
      replace hc12 := of_decide_eq_true hc12
      have hk1 : k < l.length := by omega
      obtain ⟨ad, rfl, -, hca⟩ := hl.at_ hk1
      have hk24 := (he _ (List.getElem_mem hk1)).2
      have hcbk := hcb k
      refine gskip ?_
      refine hN6 _ _ ?_
      refine gfrom [(0, .slice _ _ _), (3, .int _ _), (9, .slice _ _ _), (10, .int _ _), (11, .int _ _)] ⟨rfl, rfl, rfl, rfl, rfl, trivial⟩ fun σ => ?_
      refine gseq fun N7 hN7 => ?_
      refine gblock ?_
      refine gseq fun N8 hN8 => ?_
      refine greg ?_
      refine gop (y_indexAddr (m := k) Tryz.underlying176 Tryz.sizeOf59 rfl rfl (by omega) (by omega) (by omega)) rfl rfl rfl ?_
      refine gop (y_load Tryz.isAgg59 rfl (cell_base (hca 0 _ rfl))) rfl rfl rfl ?_
      refine gop (y_assign (v := .slice _ _ _) rfl) rfl rfl rfl ?_
      refine gops_nil ?_
      refine hN8 _ _ ?_
      refine gfrom [(0, .slice _ _ _), (3, .int _ _), (5, .slice _ _ _), (9, .slice _ _ _), (10, .int _ _), (11, .int _ _)] ⟨rfl, rfl, rfl, rfl, rfl, rfl, trivial⟩ fun σ => ?_
      refine gseq fun N9 hN9 => ?_
      refine greg ?_
      refine gop (y_move (v := .int _ _) rfl) rfl rfl rfl ?_
      refine gop (y_move (v := .slice _ _ _) rfl) rfl rfl rfl ?_
      refine gop (y_len Tryz.underlying59 rfl) rfl rfl rfl ?_
      refine gop (y_add rfl rfl ⟨by omega, by omega⟩) rfl rfl rfl ?_
      refine gop (y_assign (v := .int _ _) rfl) rfl rfl rfl ?_
      refine gops_nil ?_
      refine hN9 _ _ ?_
      refine gfrom [(0, .slice _ _ _), (3, .int _ _), (9, .slice _ _ _), (10, .int _ _), (11, .int _ _)] ⟨rfl, rfl, rfl, rfl, rfl, trivial⟩ fun σ => ?_
      refine gseq fun N10 hN10 => ?_
      refine greg ?_
      refine gop (y_move (v := .int _ _) rfl) rfl rfl rfl ?_
      refine gop (y_lss rfl rfl) rfl rfl rfl ?_
      refine gops_nil ?_
      refine hN10 _ _ ?_
      refine gfrom [(0, .slice _ _ _), (3, .int _ _), (9, .slice _ _ _), (10, .int _ _), (11, .int _ _), (20, .bool _)] ⟨rfl, rfl, rfl, rfl, rfl, rfl, trivial⟩ fun σ => ?_
      refine gcond (b := _) rfl (fun hc20 => ?_) (fun hc20 => ?_)
      · 
         exfalso; have h9 := of_decide_eq_true hc20; omega
      · 
        replace hc20 := of_decide_eq_false hc20
        refine gskip ?_
        refine hN7 _ _ ?_
        refine gfrom [(0, .slice _ _ _), (3, .int _ _), (9, .slice _ _ _), (10, .int _ _), (11, .int _ _)] ⟨rfl, rfl, rfl, rfl, rfl, trivial⟩ fun σ => ?_
        refine greg ?_
        refine gop (y_add rfl rfl ⟨by omega, by omega⟩) rfl rfl rfl ?_
        refine gop (y_move (v := .int _ _) rfl) rfl rfl rfl ?_
        refine gops_nil ?_
        refine gnext2 (k + 1) (by omega) (show k + 1 ≤ _ by omega) ⟨(congrArg (Value.int .i64) (catFs_n hk1).symm), rfl, trivial⟩ ⟨rfl, rfl, rfl, trivial⟩ ⟨_, rfl⟩
    · 
      replace hc12 := of_decide_eq_false hc12
      have hcbk := hcb k
      have hke : l.take k = l := List.take_of_length_le (by omega)
      rw [hke] at hcbk ⊢
      refine gexit ?_
      refine hN3 _ _ ?_
      refine gfrom [(0, .slice _ _ _), (3, .int _ _)] ⟨rfl, rfl, trivial⟩ fun σ => ?_
      refine gseq fun N11 hN11 => ?_
      refine greg ?_
      refine gop (y_move (v := .int _ _) rfl) rfl rfl rfl ?_
      refine gop_got (fun v T' => ∃ lo, w.heap.size ≤ lo ∧ T' = [rowl fileCells lo 85 2 (v) ([])]) (e_call (vs := [_, .int _ _]) Tryz.func103 rfl (by kernel_rfl) rfl) (fun w hM => by have hc := growF_any w (catFs l).length (by omega); exact hc.mono fun _ _ ⟨v, T1, h1, h2, h3⟩ => ⟨v, T1, h1, ⟨_, hM.low.size, h2⟩, h3⟩) rfl rfl rfl ?_
      rintro v24 _ ⟨lo24, hlo24, rfl⟩
      refine gops_fact (fun w hM => row_form (hM.ok _ (List.mem_of_getElem? (i := 0) rfl))) ?_
      rintro ⟨A24, c24, rfl, hc24, hm24, hn24⟩
      refine gops_mem _ (weak_lower 0 rfl hlo24) ?_
      refine gop (y_assign (v := .slice A24 _ c24) rfl) rfl rfl rfl ?_
      refine gops_nil ?_
      refine hN11 _ _ ?_
      refine gT [rowl _ _ _ _ _ _] rfl ?_
      refine gfrom [(0, .slice _ _ _), (6, .slice A24 _ c24)] ⟨rfl, rfl, trivial⟩ fun σ => ?_
      refine gseq fun N12 hN12 => ?_
      refine gseq fun N13 hN13 => ?_
      refine greg ?_
      refine gop (y_move (v := .slice _ _ _) rfl) rfl rfl rfl ?_
      refine gop (y_len Tryz.underlying176 rfl) rfl rfl rfl ?_
      refine gop (y_move (v := .int _ _) rfl) rfl rfl rfl ?_
      refine gops_nil ?_
      refine hN13 _ _ ?_
      refine gfrom [(6, .slice A24 _ c24), (25, .slice _ _ _), (26, .int _ _), (27, .int _ _)] ⟨rfl, rfl, rfl, rfl, trivial⟩ fun σ => ?_
      refine gblock ?_
      refine gfrom2 [(6, .slice A24 _ c24), (27, .int _ _)] [(25, .slice _ _ _), (26, .int _ _)] ⟨rfl, rfl, trivial⟩ ⟨rfl, rfl, trivial⟩ fun σ => ?_
      refine gloop2 (G := Nat × Option Addr × Nat) (fun (k, Av, cv) => k ≤ l.length) (fun (k, Av, cv) => l.length - k) (fun (k, Av, cv) => [(6, .slice Av (catFs (l.take k)).length cv), (27, .int .i64 (k : Int))]) (fun (k, Av, cv) => [(0, rowl fileCells w.heap.size 85 2 (.slice Av (catFs (l.take k)).length cv) (catFs (l.take k)))]) ((0, A24, c24)) ?h0 ⟨rfl, rfl, trivial⟩ ⟨rfl, rfl, trivial⟩ rfl ?round
      case h0 => exact Nat.zero_le _
      case round =>
        rintro ⟨k, Av, cv⟩ hφ σ
        have hk : k ≤ l.length := hφ
        refine gT [rowl _ _ _ _ _ _] rfl ?_
        refine gseq fun N14 hN14 => ?_
        refine greg ?_
        refine gop (y_lss rfl rfl) rfl rfl rfl ?_
        refine gops_nil ?_
        refine hN14 _ _ ?_
        refine gfrom [(6, .slice Av _ cv), (25, .slice _ _ _), (26, .int _ _), (27, .int _ _), (28, .bool _)] ⟨rfl, rfl, rfl, rfl, rfl, trivial⟩ fun σ => ?_
        refine gseq fun N15 hN15 => ?_
        refine gcond (b := _) rfl (fun hc28 => ?_) (fun hc28 => ?_)
        · 
          replace hc28 := of_decide_eq_true hc28
          have hk1 : k < l.length := by omega
          obtain ⟨ad, rfl, -, hca⟩ := hl.at_ hk1
          have hRk := he _ (List.getElem_mem hk1)
          have hcbj := hcb k
          refine gskip ?_
          refine hN15 _ _ ?_
          refine gfrom [(6, .slice Av _ cv), (25, .slice _ _ _), (26, .int _ _), (27, .int _ _)] ⟨rfl, rfl, rfl, rfl, trivial⟩ fun σ => ?_
          refine gseq fun N16 hN16 => ?_
          refine gblock ?_
          refine gseq fun N17 hN17 => ?_
          refine greg ?_
          refine gop (y_indexAddr (m := k) Tryz.underlying176 Tryz.sizeOf59 rfl rfl (by omega) (by omega) (by omega)) rfl rfl rfl ?_
          refine gop (y_load Tryz.isAgg59 rfl (cell_base (hca 0 _ rfl))) rfl rfl rfl ?_
          refine gop (y_assign (v := .slice _ _ _) rfl) rfl rfl rfl ?_
          refine gops_nil ?_
          refine hN17 _ _ ?_
          refine gfrom [(6, .slice Av _ cv), (8, .slice _ _ _), (25, .slice _ _ _), (26, .int _ _), (27, .int _ _)] ⟨rfl, rfl, rfl, rfl, rfl, trivial⟩ fun σ => ?_
          refine greg ?_
          refine gop (y_move (v := .slice Av _ cv) rfl) rfl rfl rfl ?_
          refine gop (y_move (v := .slice _ _ _) rfl) rfl rfl rfl ?_
          refine gop_append 0 (f := fileCells) (l2 := l[k].fs) Tryz.underlying59 el85 wide_file (v := .slice Av _ cv) rfl rfl rfl rfl hRk.1.sb.nil (by simp [maxLen]; omega) (by omega) (fun w hM => (hRk.1.rd.base hM).src (fun _ => rfl)) rfl (fun v33 => ?_)
          refine gops_fact (fun w hM => own_form (hM.own 0 rfl)) ?_
          rintro ⟨A33, c33, rfl, hc33, hm33⟩
          refine gop (y_assign (v := .slice A33 _ c33) rfl) rfl rfl rfl ?_
          refine gops_nil ?_
          refine hN16 _ _ ?_
          refine gT [rowl _ _ _ _ _ _] rfl ?_
          refine gfrom [(6, .slice A33 _ c33), (25, .slice _ _ _), (26, .int _ _), (27, .int _ _)] ⟨rfl, rfl, rfl, rfl, trivial⟩ fun σ => ?_
          refine greg ?_
          refine gop (y_add rfl rfl ⟨by omega, by omega⟩) rfl rfl rfl ?_
          refine gop (y_move (v := .int _ _) rfl) rfl rfl rfl ?_
          refine gops_nil ?_
          rw [← catFs_succ hk1]
          refine gnext2 ((k + 1, A33, c33)) (by show l.length - (k + 1) < l.length - k; omega) (show k + 1 ≤ _ by omega) ⟨(by rw [catFs_succ hk1]; rfl), rfl, trivial⟩ ⟨rfl, rfl, trivial⟩ ⟨_, rfl⟩
        · 
          replace hc28 := of_decide_eq_false hc28
          refine gexit ?_
          refine hN12 _ _ ?_
          refine gfrom [(6, .slice Av _ cv)] ⟨rfl, trivial⟩ fun σ => ?_
          refine gseq fun N18 hN18 => ?_
          refine greg ?_
          refine gop (y_move (v := .slice Av _ cv) rfl) rfl rfl rfl ?_
          refine gop (y_assign (v := .slice Av _ cv) rfl) rfl rfl rfl ?_
          refine gops_nil ?_
          refine hN18 _ _ ?_
          refine gfrom [(2, .slice Av _ cv)] ⟨rfl, trivial⟩ fun σ => ?_
          refine gret fun w1 hM => ?_
          refine ⟨_, res1 rfl (rt (v := .slice Av _ cv) rfl), ?_⟩
          have hke2 : l.take k = l := List.take_of_length_le (by omega)
          rw [hke2] at hM
          exact ⟨_, _, _, by rw [hke2], Nat.le_refl _, rfl, hM⟩
set_option maxHeartbeats 1000000 in
theorem equal_any (w : World) (A B : Option Addr) (c c' : Nat) (l m : List ByteArray) (hA : Rdl w 0 1 strCells A l) (hB : Rdl w 0 1 strCells B m) (n : Nat) (hn : n = l.length) (hl : l.length ≤ maxLen) :
    Calls Tryz.prog 72 #[.slice A n c, .slice B m.length c'] w fun e w' => e = .returned (.bool (decide (l = m))) ∧ Below w.heap.size w w' := by
  subst hn
  unfold maxLen at hl
  refine gcalls Tryz.func72 rfl Tryz.ntmps72 (Nat.le_of_ble_eq_true rfl) ?_
  refine gfrom [(0, .slice _ _ _), (1, .slice _ _ _)] ⟨rfl, rfl, trivial⟩ fun σ => ?_
  refine gseq fun N1 hN1 => ?_
  refine greg ?_
  refine gop (y_assign (v := .bool _) rfl) rfl rfl rfl ?_
  refine gops_nil ?_
  refine hN1 _ _ ?_
  refine gfrom [(0, .slice _ _ _), (1, .slice _ _ _)] ⟨rfl, rfl, trivial⟩ fun σ => ?_
  refine gseq fun N2 hN2 => ?_
  refine gseq fun N3 hN3 => ?_
  refine greg ?_
  refine gop (y_move (v := .slice _ _ _) rfl) rfl rfl rfl ?_
  refine gop (y_len Tryz.underlying22 rfl) rfl rfl rfl ?_
  refine gop (y_move (v := .slice _ _ _) rfl) rfl rfl rfl ?_
  refine gop (y_len Tryz.underlying22 rfl) rfl rfl rfl ?_
  refine gop (y_neq rfl rfl) rfl rfl rfl ?_
  refine gops_nil ?_
  refine hN3 _ _ ?_
  refine gfrom [(0, .slice _ _ _), (1, .slice _ _ _), (10, .bool _)] ⟨rfl, rfl, rfl, trivial⟩ fun σ => ?_
  refine gcond (b := _) rfl (fun hc10 => ?_) (fun hc10 => ?_)
  · 
    replace hc10 := of_decide_eq_true hc10
    refine gseq fun N4 hN4 => ?_
    refine greg ?_
    refine gop (y_assign (v := .bool _) rfl) rfl rfl rfl ?_
    refine gops_nil ?_
    refine hN4 _ _ ?_
    refine gfrom [(4, .bool _)] ⟨rfl, trivial⟩ fun σ => ?_
    refine gret fun w1 hM => ?_
    refine ⟨_, res1 rfl (rt (v := .bool _) rfl), ?_⟩
    exact ⟨by rw [decide_eq_false (fun e => by subst e; omega)], hM.low⟩
  · 
    replace hc10 := Decidable.not_not.1 (of_decide_eq_false hc10)
    refine gskip ?_
    refine hN2 _ _ ?_
    refine gfrom [(0, .slice _ _ _), (1, .slice _ _ _)] ⟨rfl, rfl, trivial⟩ fun σ => ?_
    refine gseq fun N5 hN5 => ?_
    refine gseq fun N6 hN6 => ?_
    refine greg ?_
    refine gop (y_move (v := .slice _ _ _) rfl) rfl rfl rfl ?_
    refine gop (y_len Tryz.underlying22 rfl) rfl rfl rfl ?_
    refine gop (y_move (v := .int _ _) rfl) rfl rfl rfl ?_
    refine gops_nil ?_
    refine hN6 _ _ ?_
    refine gfrom [(0, .slice _ _ _), (1, .slice _ _ _), (12, .int _ _), (13, .int _ _)] ⟨rfl, rfl, rfl, rfl, trivial⟩ fun σ => ?_
    refine gblock ?_
    refine gfrom2 [(13, .int _ _)] [(0, .slice _ _ _), (1, .slice _ _ _), (12, .int _ _)] ⟨rfl, trivial⟩ ⟨rfl, rfl, rfl, trivial⟩ fun σ => ?_
    refine gloop2 (G := Nat) (fun k => k ≤ l.length ∧ l.length = m.length ∧ l.take k = m.take k) (fun k => l.length - k) (fun k => [(13, .int .i64 (k : Int))]) (fun k => []) (0) ?h0 ⟨rfl, trivial⟩ ⟨rfl, rfl, rfl, trivial⟩ rfl ?round
    case h0 => exact ⟨Nat.zero_le _, by omega, by simp⟩
    case round =>
      intro k hφ σ
      obtain ⟨hk, hlm, htk⟩ := hφ
      refine gseq fun N7 hN7 => ?_
      refine greg ?_
      refine gop (y_lss rfl rfl) rfl rfl rfl ?_
      refine gops_nil ?_
      refine hN7 _ _ ?_
      refine gfrom [(0, .slice _ _ _), (1, .slice _ _ _), (12, .int _ _), (13, .int _ _), (14, .bool _)] ⟨rfl, rfl, rfl, rfl, rfl, trivial⟩ fun σ => ?_
      refine gseq fun N8 hN8 => ?_
      refine gcond (b := _) rfl (fun hc14 => ?_) (fun hc14 => ?_)
      · 
        replace hc14 := of_decide_eq_true hc14
        have hk1 : k < l.length := by omega
        obtain ⟨ad, rfl, -, hca⟩ := hA.at_ hk1
        obtain ⟨ad', rfl, -, hcb⟩ := hB.at_ (k := k) (by omega)
        refine gskip ?_
        refine hN8 _ _ ?_
        refine gfrom [(0, .slice _ _ _), (1, .slice _ _ _), (12, .int _ _), (13, .int _ _)] ⟨rfl, rfl, rfl, rfl, trivial⟩ fun σ => ?_
        refine gseq fun N9 hN9 => ?_
        refine gblock ?_
        refine gseq fun N10 hN10 => ?_
        refine greg ?_
        refine gop (y_move (v := .int _ _) rfl) rfl rfl rfl ?_
        refine gop (y_assign (v := .int _ _) rfl) rfl rfl rfl ?_
        refine gops_nil ?_
        refine hN10 _ _ ?_
        refine gfrom [(0, .slice _ _ _), (1, .slice _ _ _), (5, .int _ _), (12, .int _ _), (13, .int _ _)] ⟨rfl, rfl, rfl, rfl, rfl, trivial⟩ fun σ => ?_
        refine gseq fun N11 hN11 => ?_
        refine greg_q (by kernel_rfl) (by kernel_rfl) ?_
        refine gq (y_move (v := .slice _ _ _) rfl) rfl rfl rfl ?_
        refine gq (y_move (v := .int _ _) rfl) rfl rfl rfl ?_
        refine gq (y_indexAddr Tryz.underlying22 Tryz.sizeOf9 rfl rfl rfl (by omega) (by omega)) rfl rfl rfl ?_
        refine gq (y_load Tryz.isAgg9 rfl (cell_base (hca 0 _ rfl))) rfl rfl rfl ?_
        refine gq (y_move (v := .slice _ _ _) rfl) rfl rfl rfl ?_
        refine gq (y_move (v := .int _ _) rfl) rfl rfl rfl ?_
        refine gq (y_indexAddr Tryz.underlying22 Tryz.sizeOf9 rfl rfl rfl (by omega) (by omega)) rfl rfl rfl ?_
        refine gq (y_load Tryz.isAgg9 rfl (cell_base (hcb 0 _ rfl))) rfl rfl rfl ?_
        refine gq (y_neqs rfl rfl) rfl rfl rfl ?_
        refine gqs_nil ?_
        refine hN11 _ _ ?_
        refine gfrom [(0, .slice _ _ _), (1, .slice _ _ _), (12, .int _ _), (13, .int _ _), (24, .bool _)] ⟨rfl, rfl, rfl, rfl, rfl, trivial⟩ fun σ => ?_
        refine gcond (b := _) rfl (fun hc24 => ?_) (fun hc24 => ?_)
        · 
          replace hc24 := strEq_ne2 hc24
          refine gseq fun N12 hN12 => ?_
          refine greg ?_
          refine gop (y_assign (v := .bool _) rfl) rfl rfl rfl ?_
          refine gops_nil ?_
          refine hN12 _ _ ?_
          refine gfrom [(4, .bool _)] ⟨rfl, trivial⟩ fun σ => ?_
          refine gret fun w1 hM => ?_
          refine ⟨_, res1 rfl (rt (v := .bool _) rfl), ?_⟩
          exact ⟨by rw [decide_eq_false (ne_of_at hk1 (by omega) hc24)], hM.low⟩
        · 
          replace hc24 := sb_eq_t (by simpa using hc24)
          refine gskip ?_
          refine hN9 _ _ ?_
          refine gfrom [(0, .slice _ _ _), (1, .slice _ _ _), (12, .int _ _), (13, .int _ _)] ⟨rfl, rfl, rfl, rfl, trivial⟩ fun σ => ?_
          refine greg ?_
          refine gop (y_add rfl rfl ⟨by omega, by omega⟩) rfl rfl rfl ?_
          refine gop (y_move (v := .int _ _) rfl) rfl rfl rfl ?_
          refine gops_nil ?_
          refine gnext2 (k + 1) (by omega) (⟨by omega, hlm, take_next l m k (by omega) (by omega) htk hc24⟩) ⟨rfl, trivial⟩ ⟨rfl, rfl, rfl, trivial⟩ ⟨_, rfl⟩
      · 
        replace hc14 := of_decide_eq_false hc14
        refine gexit ?_
        refine hN5 _ _ ?_
        refine gfrom [] trivial fun σ => ?_
        refine gseq fun N13 hN13 => ?_
        refine greg ?_
        refine gop (y_assign (v := .bool _) rfl) rfl rfl rfl ?_
        refine gops_nil ?_
        refine hN13 _ _ ?_
        refine gfrom [(4, .bool _)] ⟨rfl, trivial⟩ fun σ => ?_
        refine gret fun w1 hM => ?_
        refine ⟨_, res1 rfl (rt (v := .bool _) rfl), ?_⟩
        exact ⟨by rw [decide_eq_true (eq_of_takes hlm (by omega) htk)], hM.low⟩
set_option maxHeartbeats 16000000 in
theorem changed_any (w : World) (A : Option Addr) (c : Nat) (fs : List FileC) (hR : TreeR w 0 A c fs) (v : VTree (fpl fs)) (B : Option Addr) (d : Nat) (gs : List FileC) (hS : TreeR w 0 B d gs) (v2 : VTree (fpl gs)) :
    Calls Tryz.prog 39 #[.agg #[.slice A fs.length c], .agg #[.slice B gs.length d]] w fun e w' => ∃ v T', e = .returned v ∧ T' = [rowl strCells w.heap.size 9 1 (v) (chgL (fpl fs) (fpl gs))] ∧ Mem w T' w' := by
  have hsl := hR.sb.len
  have hsm := hR.sb.max
  have hmx : maxLen = 9223372036854775807 := rfl
  have hA24 : fs.length ≤ 24 := by have h9 := v.len; simpa using h9
  have hB24 : gs.length ≤ 24 := by have h9 := v2.len; simpa using h9
  have hall : (fs ++ gs).length = fs.length + gs.length := List.length_append
  refine gcalls Tryz.func39 rfl Tryz.ntmps39 (Nat.le_of_ble_eq_true rfl) ?_
  refine gfrom [(0, .agg #[_]), (1, .agg #[_])] ⟨rfl, rfl, trivial⟩ fun σ => ?_
  refine gseq fun N1 hN1 => ?_
  refine greg ?_
  refine gop_box (v := .agg #[_]) (cs := #[_]) rfl rfl rfl (fun b2 hb2 => ?_)
  refine gop_box (v := .agg #[_]) (cs := #[_]) rfl rfl rfl (fun b3 hb3 => ?_)
  refine gop (y_assign (v := .slice _ _ _) rfl) rfl rfl rfl ?_
  refine gops_nil ?_
  refine hN1 _ _ ?_
  refine gT [box b2 _, box b3 _] rfl ?_
  refine gfrom [(2, .pointer _), (3, .pointer _)] ⟨rfl, rfl, trivial⟩ fun σ => ?_
  refine gseq fun N2 hN2 => ?_
  refine greg ?_
  refine gop (y_assign (v := .slice _ _ _) rfl) rfl rfl rfl ?_
  refine gops_nil ?_
  refine hN2 _ _ ?_
  refine gfrom [(2, .pointer _), (3, .pointer _), (5, .slice _ _ _)] ⟨rfl, rfl, rfl, trivial⟩ fun σ => ?_
  refine gseq fun N3 hN3 => ?_
  refine gseq fun N4 hN4 => ?_
  refine greg ?_
  refine gop (y_fieldAddr_box fa61_0 rfl) rfl rfl rfl ?_
  refine gop (y_load Tryz.isAgg59 rfl (cell_box 0 rfl rfl)) rfl rfl rfl ?_
  refine gop (y_fieldAddr_box fa61_0 rfl) rfl rfl rfl ?_
  refine gop (y_load Tryz.isAgg59 rfl (cell_box 1 rfl rfl)) rfl rfl rfl ?_
  refine gop_lit (vs := [.slice _ _ _, .slice _ _ _]) (cells := #[_, _]) Tryz.underlying176 Tryz.sizeOf59 Tryz.zeroValue59 rfl (by decide) (by decide) rfl rfl rfl rfl (fun b16 hb16 => ?_)
  refine gop_got (fun v T' => ∃ lo, w.heap.size ≤ lo ∧ T' = [rowl fileCells lo 85 2 (v) ((fs ++ gs))]) (e_call (vs := [.slice (some _) _ _]) Tryz.func71 rfl (by kernel_rfl) rfl) (fun w hM => by have hr : Rdl w 0 1 fsCells (some ⟨b16, 0, none⟩) [⟨A, c, fs⟩, ⟨B, d, gs⟩] := (Rdl.of_box 2 (f := fsCells) (fun _ => rfl) hM rfl rfl).mono (Nat.zero_le _); have he : ∀ x ∈ ([⟨A, c, fs⟩, ⟨B, d, gs⟩] : List FsC), TreeR w 0 x.A x.c x.fs ∧ x.fs.length ≤ 24 := (fun x hx => by rcases List.mem_cons.1 hx with rfl | hx; exact ⟨hR.base hM, hA24⟩; obtain rfl := List.mem_singleton.1 hx; exact ⟨hS.base hM, hB24⟩); have hc := concat_any w (some ⟨b16, 0, none⟩) 2 [⟨A, c, fs⟩, ⟨B, d, gs⟩] hr (by simp) he; rw [show catFs [⟨A, c, fs⟩, ⟨B, d, gs⟩] = fs ++ gs from by simp [catFs]] at hc; exact hc.mono fun _ _ ⟨v, T1, lo, h1, h2, h3, h4⟩ => ⟨v, T1, h1, ⟨lo, Nat.le_trans hM.low.size h2, h3⟩, h4⟩) rfl rfl rfl ?_
  rintro v17 _ ⟨lo17, hlo17, rfl⟩
  refine gops_fact (fun w hM => row_form (hM.ok _ (List.mem_of_getElem? (i := 3) rfl))) ?_
  rintro ⟨A17, c17, rfl, hc17, hm17, hn17⟩
  refine gops_fact (Φ := 0 < ((fs ++ gs)).length → ∃ g, A17 = some ⟨g, 0, none⟩) (fun w hM h9 => row_g2 (hM.ok _ (List.mem_of_getElem? (i := 3) rfl)) h9) ?_
  intro hg17
  refine gop (y_len Tryz.underlying59 rfl) rfl rfl rfl ?_
  refine gop (y_move (v := .int _ _) rfl) rfl rfl rfl ?_
  refine gops_nil ?_
  refine hN4 _ _ ?_
  refine gT [box b2 _, box b3 _, box b16 _, rowl _ _ _ _ _ _] rfl ?_
  refine gfrom [(2, .pointer _), (3, .pointer _), (5, .slice _ _ _), (17, .slice A17 _ c17), (18, .int _ _), (19, .int _ _)] ⟨rfl, rfl, rfl, rfl, rfl, rfl, trivial⟩ fun σ => ?_
  refine gblock ?_
  refine gnilrow strCells 9 1 ?_
  refine gfrom2 [(5, .slice _ _ _), (19, .int _ _)] [(2, .pointer _), (3, .pointer _), (17, .slice A17 _ c17), (18, .int _ _)] ⟨rfl, rfl, trivial⟩ ⟨rfl, rfl, rfl, rfl, trivial⟩ fun σ => ?_
  refine gloop2 (G := Nat × Option Addr × Nat) (fun (k, Ov, ov) => k ≤ (fs ++ gs).length) (fun (k, Ov, ov) => (fs ++ gs).length - k) (fun (k, Ov, ov) => [(5, .slice Ov (chgTo (fpl fs) (fpl gs) k).length ov), (19, .int .i64 (k : Int))]) (fun (k, Ov, ov) => [(4, rowl strCells w.heap.size 9 1 (.slice Ov (chgTo (fpl fs) (fpl gs) k).length ov) (chgTo (fpl fs) (fpl gs) k))]) ((0, none, 0)) ?h0 ⟨rfl, rfl, trivial⟩ ⟨rfl, rfl, rfl, rfl, trivial⟩ rfl ?round
  case h0 => exact Nat.zero_le _
  case round =>
    rintro ⟨k, Ov, ov⟩ hφ σ
    have hk : k ≤ (fs ++ gs).length := hφ
    have hcl := chgTo_len (fpl fs) (fpl gs) k
    refine gT [box b2 _, box b3 _, box b16 _, rowl _ _ _ _ _ _, rowl _ _ _ _ _ _] rfl ?_
    refine gseq fun N5 hN5 => ?_
    refine greg ?_
    refine gop (y_lss rfl rfl) rfl rfl rfl ?_
    refine gops_nil ?_
    refine hN5 _ _ ?_
    refine gfrom [(2, .pointer _), (3, .pointer _), (5, .slice Ov _ ov), (17, .slice A17 _ c17), (18, .int _ _), (19, .int _ _), (20, .bool _)] ⟨rfl, rfl, rfl, rfl, rfl, rfl, rfl, trivial⟩ fun σ => ?_
    refine gseq fun N6 hN6 => ?_
    refine gcond (b := _) rfl (fun hc20 => ?_) (fun hc20 => ?_)
    · 
      replace hc20 := of_decide_eq_true hc20
      have hk1 : k < (fs ++ gs).length := by omega
      obtain ⟨g17, rfl⟩ := hg17 (by omega)
      refine gskip ?_
      refine hN6 _ _ ?_
      refine gfrom [(2, .pointer _), (3, .pointer _), (5, .slice Ov _ ov), (17, .slice (some ⟨g17, 0, none⟩) _ c17), (18, .int _ _), (19, .int _ _)] ⟨rfl, rfl, rfl, rfl, rfl, rfl, trivial⟩ fun σ => ?_
      refine gseq fun N7 hN7 => ?_
      refine gblock ?_
      refine gseq fun N8 hN8 => ?_
      refine greg ?_
      refine gop (y_indexAddr (m := k) Tryz.underlying59 Tryz.sizeOf85 rfl rfl (by omega) (by omega) (by omega)) rfl rfl rfl ?_
      refine gop (y_loads (cs := [_, _]) Tryz.isAgg85 Tryz.sizeOf85 rfl rfl (cells_rowp 3 (f := fileCells) (l := (fs ++ gs)) rfl rfl (fun _ => rfl) (List.getElem?_eq_getElem hk1))) rfl rfl rfl ?_
      refine gop_alloc (cs := #[.string .empty, .slice none 0 0]) Tryz.zeroValue85 rfl rfl (fun b7 hb7 => ?_)
      refine gop_store 5 (v := .agg #[_, _]) (cs' := #[_, _]) rfl rfl Tryz.sizeOf85 rfl rfl rfl rfl (Nat.le_of_ble_eq_true rfl) rfl rfl ?_
      refine gops_nil ?_
      refine hN8 _ _ ?_
      refine gT [box b2 _, box b3 _, box b16 _, rowl _ _ _ _ _ _, rowl _ _ _ _ _ _, box b7 _] rfl ?_
      refine gfrom [(2, .pointer _), (3, .pointer _), (5, .slice Ov _ ov), (7, .pointer _), (17, .slice (some ⟨g17, 0, none⟩) _ c17), (18, .int _ _), (19, .int _ _)] ⟨rfl, rfl, rfl, rfl, rfl, rfl, rfl, trivial⟩ fun σ => ?_
      refine gseq fun N9 hN9 => ?_
      refine greg ?_
      refine gop (y_fieldAddr_box fa61_0 rfl) rfl rfl rfl ?_
      refine gop (y_load Tryz.isAgg59 rfl (cell_box 0 rfl rfl)) rfl rfl rfl ?_
      refine gop (y_fieldAddr_box fa85_0 rfl) rfl rfl rfl ?_
      refine gop (y_load Tryz.isAgg9 rfl (cell_box 5 rfl rfl)) rfl rfl rfl ?_
      refine gop_got (fun v T' => T' = [] ∧ ∃ (kk : Nat) (b : Bool), v = .tuple #[.int .i64 (kk : Int), .bool b] ∧ (b = true → ∃ h : kk < fs.length, fs[kk].pl.path = (fs ++ gs)[k].pl.path) ∧ (b = false → ∀ f ∈ fs, f.pl.path ≠ (fs ++ gs)[k].pl.path)) (e_call (vs := [.slice _ _ _, .string _]) Tryz.func69 rfl (by kernel_rfl) rfl) (fun w hM => (treeFind_any w A c fs (hR.base hM) v (fs ++ gs)[k].pl.path).mono fun _ _ ⟨k, b, h1, h2, h3, h4⟩ => ⟨_, [], h1, ⟨rfl, k, b, rfl, h3, h4⟩, (Mem.start w).call h2⟩) rfl rfl rfl ?_
      rintro _ _ ⟨rfl, i, q1, rfl, hf1, hf2⟩
      refine gop (y_move (v := .tuple #[.int _ _, .bool _]) rfl) rfl rfl rfl ?_
      refine gop (y_extract (v := .int _ _) rfl rfl) rfl rfl rfl ?_
      refine gop (y_extract (v := .bool _) rfl rfl) rfl rfl rfl ?_
      refine gop (y_assign (v := .int _ _) rfl) rfl rfl rfl ?_
      refine gop (y_assign (v := .bool _) rfl) rfl rfl rfl ?_
      refine gops_nil ?_
      refine hN9 _ _ ?_
      refine gfrom [(2, .pointer _), (3, .pointer _), (5, .slice Ov _ ov), (7, .pointer _), (8, .int _ _), (9, .bool _), (17, .slice (some ⟨g17, 0, none⟩) _ c17), (18, .int _ _), (19, .int _ _)] ⟨rfl, rfl, rfl, rfl, rfl, rfl, rfl, rfl, rfl, trivial⟩ fun σ => ?_
      refine gseq fun N10 hN10 => ?_
      refine greg ?_
      refine gop (y_fieldAddr_box fa61_0 rfl) rfl rfl rfl ?_
      refine gop (y_load Tryz.isAgg59 rfl (cell_box 1 rfl rfl)) rfl rfl rfl ?_
      refine gop (y_fieldAddr_box fa85_0 rfl) rfl rfl rfl ?_
      refine gop (y_load Tryz.isAgg9 rfl (cell_box 5 rfl rfl)) rfl rfl rfl ?_
      refine gop_got (fun v T' => T' = [] ∧ ∃ (kk : Nat) (b : Bool), v = .tuple #[.int .i64 (kk : Int), .bool b] ∧ (b = true → ∃ h : kk < gs.length, gs[kk].pl.path = (fs ++ gs)[k].pl.path) ∧ (b = false → ∀ f ∈ gs, f.pl.path ≠ (fs ++ gs)[k].pl.path)) (e_call (vs := [.slice _ _ _, .string _]) Tryz.func69 rfl (by kernel_rfl) rfl) (fun w hM => (treeFind_any w B d gs (hS.base hM) v2 (fs ++ gs)[k].pl.path).mono fun _ _ ⟨k, b, h1, h2, h3, h4⟩ => ⟨_, [], h1, ⟨rfl, k, b, rfl, h3, h4⟩, (Mem.start w).call h2⟩) rfl rfl rfl ?_
      rintro _ _ ⟨rfl, j, q2, rfl, hf3, hf4⟩
      refine gop (y_move (v := .tuple #[.int _ _, .bool _]) rfl) rfl rfl rfl ?_
      refine gop (y_extract (v := .int _ _) rfl rfl) rfl rfl rfl ?_
      refine gop (y_extract (v := .bool _) rfl rfl) rfl rfl rfl ?_
      refine gop (y_assign (v := .int _ _) rfl) rfl rfl rfl ?_
      refine gop (y_assign (v := .bool _) rfl) rfl rfl rfl ?_
      refine gops_nil ?_
      refine hN10 _ _ ?_
      refine gfrom [(2, .pointer _), (3, .pointer _), (5, .slice Ov _ ov), (7, .pointer _), (8, .int _ _), (9, .bool _), (10, .int _ _), (11, .bool _), (17, .slice (some ⟨g17, 0, none⟩) _ c17), (18, .int _ _), (19, .int _ _)] ⟨rfl, rfl, rfl, rfl, rfl, rfl, rfl, rfl, rfl, rfl, rfl, trivial⟩ fun σ => ?_
      refine gseq fun N11 hN11 => ?_
      refine greg_q (by kernel_rfl) (by kernel_rfl) ?_
      refine gq (y_move (v := .bool _) rfl) rfl rfl rfl ?_
      refine gq (y_not rfl) rfl rfl rfl ?_
      refine gq (y_move (v := .bool _) rfl) rfl rfl rfl ?_
      refine gq_if (want := false) rfl rfl rfl rfl rfl rfl (fun hg41 => ?_) (fun hg41 => ?_)
      · 
        have hb1 : q1 = true := by simpa using hg41
        refine gq (y_bare (y_move (v := .bool _) rfl)) rfl rfl rfl ?_
        refine gq_on rfl rfl rfl rfl hg41 ?_
        refine gq (y_bare (y_not rfl)) rfl rfl rfl ?_
        refine gq (y_pick_f (v := .bool _) rfl hg41 rfl) rfl rfl rfl ?_
        refine gq (y_move (v := .bool _) rfl) rfl rfl rfl ?_
        refine gq_if (want := false) rfl rfl rfl rfl rfl rfl (fun hg45 => ?_) (fun hg45 => ?_)
        · 
          have hb2 : q2 = true := by simpa using hg45
          obtain ⟨hi1, hp1⟩ := hf1 hb1
          obtain ⟨hj1, hp2⟩ := hf3 hb2
          have hD := diff_both v v2 hi1 hp1 hj1 hp2
          have hRi := hR.each _ (List.getElem_mem hi1)
          have hSj := hS.each _ (List.getElem_mem hj1)
          obtain ⟨ad, rfl, -, hcx⟩ := hR.rd.at_ hi1
          obtain ⟨ad2, rfl, -, hcy⟩ := hS.rd.at_ hj1
          refine gq (y_bare (y_fieldAddr_box fa61_0 rfl)) rfl rfl rfl ?_
          refine gq_on rfl rfl rfl rfl hg45 ?_
          refine gq (y_bare (y_load Tryz.isAgg59 rfl (cell_box 0 rfl rfl))) rfl rfl rfl ?_
          refine gq_on rfl rfl rfl rfl hg45 ?_
          refine gq (y_bare (y_move (v := .int _ _) rfl)) rfl rfl rfl ?_
          refine gq_on rfl rfl rfl rfl hg45 ?_
          refine gq (y_bare (y_indexAddr (m := i) Tryz.underlying59 Tryz.sizeOf85 rfl rfl (by omega) (by omega) (by omega))) rfl rfl rfl ?_
          refine gq_on rfl rfl rfl rfl hg45 ?_
          refine gq (y_bare (y_fieldAddr_add fa85_1 rfl)) rfl rfl rfl ?_
          refine gq_on rfl rfl rfl rfl hg45 ?_
          refine gq (y_bare (y_load Tryz.isAgg22 rfl (cell_base (hcx 1 _ rfl)))) rfl rfl rfl ?_
          refine gq_on rfl rfl rfl rfl hg45 ?_
          refine gq (y_bare (y_fieldAddr_box fa61_0 rfl)) rfl rfl rfl ?_
          refine gq_on rfl rfl rfl rfl hg45 ?_
          refine gq (y_bare (y_load Tryz.isAgg59 rfl (cell_box 1 rfl rfl))) rfl rfl rfl ?_
          refine gq_on rfl rfl rfl rfl hg45 ?_
          refine gq (y_bare (y_move (v := .int _ _) rfl)) rfl rfl rfl ?_
          refine gq_on rfl rfl rfl rfl hg45 ?_
          refine gq (y_bare (y_indexAddr (m := j) Tryz.underlying59 Tryz.sizeOf85 rfl rfl (by omega) (by omega) (by omega))) rfl rfl rfl ?_
          refine gq_on rfl rfl rfl rfl hg45 ?_
          refine gq (y_bare (y_fieldAddr_add fa85_1 rfl)) rfl rfl rfl ?_
          refine gq_on rfl rfl rfl rfl hg45 ?_
          refine gq (y_bare (y_load Tryz.isAgg22 rfl (cell_base (hcy 1 _ rfl)))) rfl rfl rfl ?_
          refine gq_on rfl rfl rfl rfl hg45 ?_
          refine gq_pure (e_call (vs := [.slice _ _ _, .slice _ _ _]) Tryz.func72 rfl (by kernel_rfl) rfl) (fun w hM => by have hc := equal_any w fs[i].A gs[j].A fs[i].c gs[j].c fs[i].pl.lines gs[j].pl.lines (hRi.rd.base hM) (hSj.rd.base hM) _ rfl (Nat.le_trans hRi.sb.len hRi.sb.max); exact hc) rfl rfl rfl ?_
          refine gq_on rfl rfl rfl rfl hg45 ?_
          refine gq (y_bare (y_not rfl)) rfl rfl rfl ?_
          refine gq (y_pick_f (v := .bool _) rfl hg45 rfl) rfl rfl rfl ?_
          refine gqs_nil ?_
          refine hN11 _ _ ?_
          refine gfrom [(2, .pointer _), (3, .pointer _), (5, .slice Ov _ ov), (7, .pointer _), (17, .slice (some ⟨g17, 0, none⟩) _ c17), (18, .int _ _), (19, .int _ _), (60, .bool _)] ⟨rfl, rfl, rfl, rfl, rfl, rfl, rfl, rfl, trivial⟩ fun σ => ?_
          refine gcond (b := _) rfl (fun hc60 => ?_) (fun hc60 => ?_)
          · 
            have hd : diffAt (fpl fs) (fpl gs) (fs ++ gs)[k].pl.path = true := by first | exact hD | exact hD.trans hc60
            refine greg ?_
            refine gop (y_move (v := .slice Ov _ ov) rfl) rfl rfl rfl ?_
            refine gop (y_fieldAddr_box fa85_0 rfl) rfl rfl rfl ?_
            refine gop (y_load Tryz.isAgg9 rfl (cell_box 5 rfl rfl)) rfl rfl rfl ?_
            refine gop_lit (vs := [.string _]) (cells := #[_]) Tryz.underlying22 Tryz.sizeOf9 Tryz.zeroValue9 rfl (by decide) (by decide) rfl rfl rfl rfl (fun b64 hb64 => ?_)
            refine gop_append 4 (f := strCells) (l2 := [(fs ++ gs)[k].pl.path]) Tryz.underlying22 el9 wide_str (v := .slice Ov _ ov) rfl rfl rfl rfl (fun h => by cases h) (by simp [maxLen]; omega) (by simp; omega) (src_box 6 rfl rfl) rfl (fun v65 => ?_)
            refine gops_fact (fun w hM => own_form (hM.own 4 rfl)) ?_
            rintro ⟨A65, c65, rfl, hc65, hm65⟩
            refine gop (y_assign (v := .slice A65 _ c65) rfl) rfl rfl rfl ?_
            refine gops_nil ?_
            refine hN7 _ _ ?_
            refine gT [box b2 _, box b3 _, box b16 _, rowl _ _ _ _ _ _, rowl _ _ _ _ _ _, box b7 _, box b64 _] rfl ?_
            refine gfrom [(2, .pointer _), (3, .pointer _), (5, .slice A65 _ c65), (17, .slice (some ⟨g17, 0, none⟩) _ c17), (18, .int _ _), (19, .int _ _)] ⟨rfl, rfl, rfl, rfl, rfl, rfl, trivial⟩ fun σ => ?_
            refine greg ?_
            refine gop (y_add rfl rfl ⟨by omega, by omega⟩) rfl rfl rfl ?_
            refine gop (y_move (v := .int _ _) rfl) rfl rfl rfl ?_
            refine gops_nil ?_
            rw [← chgTo_yes hk1 hd]
            refine gnext2 ((k + 1, A65, c65)) (by show (fs ++ gs).length - (k + 1) < (fs ++ gs).length - k; omega) (show k + 1 ≤ _ by omega) ⟨(by rw [chgTo_yes hk1 hd]; rfl), rfl, trivial⟩ ⟨rfl, rfl, rfl, rfl, trivial⟩ ⟨_, rfl⟩
          · 
            have hd : diffAt (fpl fs) (fpl gs) (fs ++ gs)[k].pl.path = false := hD.trans hc60
            refine gskip ?_
            refine hN7 _ _ ?_
            refine gfrom [(2, .pointer _), (3, .pointer _), (5, .slice Ov _ ov), (17, .slice (some ⟨g17, 0, none⟩) _ c17), (18, .int _ _), (19, .int _ _)] ⟨rfl, rfl, rfl, rfl, rfl, rfl, trivial⟩ fun σ => ?_
            refine greg ?_
            refine gop (y_add rfl rfl ⟨by omega, by omega⟩) rfl rfl rfl ?_
            refine gop (y_move (v := .int _ _) rfl) rfl rfl rfl ?_
            refine gops_nil ?_
            rw [← chgTo_no hk1 hd]
            refine gnext2 ((k + 1, Ov, ov)) (by show (fs ++ gs).length - (k + 1) < (fs ++ gs).length - k; omega) (show k + 1 ≤ _ by omega) ⟨rfl, rfl, trivial⟩ ⟨rfl, rfl, rfl, rfl, trivial⟩ ⟨_, rfl⟩
        · 
          have hD := diff_right (a := fpl fs) (hf4 (by simpa using hg45))
          refine gq_off rfl rfl rfl rfl hg45 rfl rfl ?_
          refine gq_off rfl rfl rfl rfl hg45 rfl rfl ?_
          refine gq_off rfl rfl rfl rfl hg45 rfl rfl ?_
          refine gq_off rfl rfl rfl rfl hg45 rfl rfl ?_
          refine gq_off rfl rfl rfl rfl hg45 rfl rfl ?_
          refine gq_off rfl rfl rfl rfl hg45 rfl rfl ?_
          refine gq_off rfl rfl rfl rfl hg45 rfl rfl ?_
          refine gq_off rfl rfl rfl rfl hg45 rfl rfl ?_
          refine gq_off rfl rfl rfl rfl hg45 rfl rfl ?_
          refine gq_off rfl rfl rfl rfl hg45 rfl rfl ?_
          refine gq_off rfl rfl rfl rfl hg45 rfl rfl ?_
          refine gq_off rfl rfl rfl rfl hg45 rfl rfl ?_
          refine gq_off rfl rfl rfl rfl hg45 rfl rfl ?_
          refine gq (y_pick_t (v := .bool _) rfl hg45 rfl) rfl rfl rfl ?_
          refine gqs_nil ?_
          refine hN11 _ _ ?_
          refine gfrom [(2, .pointer _), (3, .pointer _), (5, .slice Ov _ ov), (7, .pointer _), (17, .slice (some ⟨g17, 0, none⟩) _ c17), (18, .int _ _), (19, .int _ _), (60, .bool _)] ⟨rfl, rfl, rfl, rfl, rfl, rfl, rfl, rfl, trivial⟩ fun σ => ?_
          refine gcond (b := _) rfl (fun hc60 => ?_) (fun hc60 => ?_)
          · 
            have hd : diffAt (fpl fs) (fpl gs) (fs ++ gs)[k].pl.path = true := by first | exact hD | exact hD.trans hc60
            refine greg ?_
            refine gop (y_move (v := .slice Ov _ ov) rfl) rfl rfl rfl ?_
            refine gop (y_fieldAddr_box fa85_0 rfl) rfl rfl rfl ?_
            refine gop (y_load Tryz.isAgg9 rfl (cell_box 5 rfl rfl)) rfl rfl rfl ?_
            refine gop_lit (vs := [.string _]) (cells := #[_]) Tryz.underlying22 Tryz.sizeOf9 Tryz.zeroValue9 rfl (by decide) (by decide) rfl rfl rfl rfl (fun b64 hb64 => ?_)
            refine gop_append 4 (f := strCells) (l2 := [(fs ++ gs)[k].pl.path]) Tryz.underlying22 el9 wide_str (v := .slice Ov _ ov) rfl rfl rfl rfl (fun h => by cases h) (by simp [maxLen]; omega) (by simp; omega) (src_box 6 rfl rfl) rfl (fun v65 => ?_)
            refine gops_fact (fun w hM => own_form (hM.own 4 rfl)) ?_
            rintro ⟨A65, c65, rfl, hc65, hm65⟩
            refine gop (y_assign (v := .slice A65 _ c65) rfl) rfl rfl rfl ?_
            refine gops_nil ?_
            refine hN7 _ _ ?_
            refine gT [box b2 _, box b3 _, box b16 _, rowl _ _ _ _ _ _, rowl _ _ _ _ _ _, box b7 _, box b64 _] rfl ?_
            refine gfrom [(2, .pointer _), (3, .pointer _), (5, .slice A65 _ c65), (17, .slice (some ⟨g17, 0, none⟩) _ c17), (18, .int _ _), (19, .int _ _)] ⟨rfl, rfl, rfl, rfl, rfl, rfl, trivial⟩ fun σ => ?_
            refine greg ?_
            refine gop (y_add rfl rfl ⟨by omega, by omega⟩) rfl rfl rfl ?_
            refine gop (y_move (v := .int _ _) rfl) rfl rfl rfl ?_
            refine gops_nil ?_
            rw [← chgTo_yes hk1 hd]
            refine gnext2 ((k + 1, A65, c65)) (by show (fs ++ gs).length - (k + 1) < (fs ++ gs).length - k; omega) (show k + 1 ≤ _ by omega) ⟨(by rw [chgTo_yes hk1 hd]; rfl), rfl, trivial⟩ ⟨rfl, rfl, rfl, rfl, trivial⟩ ⟨_, rfl⟩
          · 
            cases hc60
      · 
        have hD := diff_left (b := fpl gs) (hf2 (by simpa using hg41))
        refine gq_off rfl rfl rfl rfl hg41 rfl rfl ?_
        refine gq (y_pick_t (v := .bool _) rfl hg41 rfl) rfl rfl rfl ?_
        refine gq (y_move (v := .bool _) rfl) rfl rfl rfl ?_
        refine gq_off rfl rfl rfl rfl rfl rfl rfl ?_
        refine gq_off rfl rfl rfl rfl rfl rfl rfl ?_
        refine gq_off rfl rfl rfl rfl rfl rfl rfl ?_
        refine gq_off rfl rfl rfl rfl rfl rfl rfl ?_
        refine gq_off rfl rfl rfl rfl rfl rfl rfl ?_
        refine gq_off rfl rfl rfl rfl rfl rfl rfl ?_
        refine gq_off rfl rfl rfl rfl rfl rfl rfl ?_
        refine gq_off rfl rfl rfl rfl rfl rfl rfl ?_
        refine gq_off rfl rfl rfl rfl rfl rfl rfl ?_
        refine gq_off rfl rfl rfl rfl rfl rfl rfl ?_
        refine gq_off rfl rfl rfl rfl rfl rfl rfl ?_
        refine gq_off rfl rfl rfl rfl rfl rfl rfl ?_
        refine gq_off rfl rfl rfl rfl rfl rfl rfl ?_
        refine gq_off rfl rfl rfl rfl rfl rfl rfl ?_
        refine gq (y_pick_t (v := .bool _) rfl rfl rfl) rfl rfl rfl ?_
        refine gqs_nil ?_
        refine hN11 _ _ ?_
        refine gfrom [(2, .pointer _), (3, .pointer _), (5, .slice Ov _ ov), (7, .pointer _), (17, .slice (some ⟨g17, 0, none⟩) _ c17), (18, .int _ _), (19, .int _ _), (60, .bool _)] ⟨rfl, rfl, rfl, rfl, rfl, rfl, rfl, rfl, trivial⟩ fun σ => ?_
        refine gcond (b := _) rfl (fun hc60 => ?_) (fun hc60 => ?_)
        · 
          have hd : diffAt (fpl fs) (fpl gs) (fs ++ gs)[k].pl.path = true := by first | exact hD | exact hD.trans hc60
          refine greg ?_
          refine gop (y_move (v := .slice Ov _ ov) rfl) rfl rfl rfl ?_
          refine gop (y_fieldAddr_box fa85_0 rfl) rfl rfl rfl ?_
          refine gop (y_load Tryz.isAgg9 rfl (cell_box 5 rfl rfl)) rfl rfl rfl ?_
          refine gop_lit (vs := [.string _]) (cells := #[_]) Tryz.underlying22 Tryz.sizeOf9 Tryz.zeroValue9 rfl (by decide) (by decide) rfl rfl rfl rfl (fun b64 hb64 => ?_)
          refine gop_append 4 (f := strCells) (l2 := [(fs ++ gs)[k].pl.path]) Tryz.underlying22 el9 wide_str (v := .slice Ov _ ov) rfl rfl rfl rfl (fun h => by cases h) (by simp [maxLen]; omega) (by simp; omega) (src_box 6 rfl rfl) rfl (fun v65 => ?_)
          refine gops_fact (fun w hM => own_form (hM.own 4 rfl)) ?_
          rintro ⟨A65, c65, rfl, hc65, hm65⟩
          refine gop (y_assign (v := .slice A65 _ c65) rfl) rfl rfl rfl ?_
          refine gops_nil ?_
          refine hN7 _ _ ?_
          refine gT [box b2 _, box b3 _, box b16 _, rowl _ _ _ _ _ _, rowl _ _ _ _ _ _, box b7 _, box b64 _] rfl ?_
          refine gfrom [(2, .pointer _), (3, .pointer _), (5, .slice A65 _ c65), (17, .slice (some ⟨g17, 0, none⟩) _ c17), (18, .int _ _), (19, .int _ _)] ⟨rfl, rfl, rfl, rfl, rfl, rfl, trivial⟩ fun σ => ?_
          refine greg ?_
          refine gop (y_add rfl rfl ⟨by omega, by omega⟩) rfl rfl rfl ?_
          refine gop (y_move (v := .int _ _) rfl) rfl rfl rfl ?_
          refine gops_nil ?_
          rw [← chgTo_yes hk1 hd]
          refine gnext2 ((k + 1, A65, c65)) (by show (fs ++ gs).length - (k + 1) < (fs ++ gs).length - k; omega) (show k + 1 ≤ _ by omega) ⟨(by rw [chgTo_yes hk1 hd]; rfl), rfl, trivial⟩ ⟨rfl, rfl, rfl, rfl, trivial⟩ ⟨_, rfl⟩
        · 
          cases hc60
    · 
      replace hc20 := of_decide_eq_false hc20
      have hca := chgTo_all (fs := fs) (gs := gs) (k := k) (by omega)
      refine gexit ?_
      refine hN3 _ _ ?_
      refine gfrom [(5, .slice Ov _ ov)] ⟨rfl, trivial⟩ fun σ => ?_
      refine gseq fun N12 hN12 => ?_
      refine greg ?_
      refine gop (y_move (v := .slice Ov _ ov) rfl) rfl rfl rfl ?_
      refine gop_does1 4 (fun v r2 G => v = .tuple #[] ∧ r2 = rowl strCells w.heap.size 9 1 (.slice Ov (chgTo (fpl fs) (fpl gs) k).length ov) (sortS (chgTo (fpl fs) (fpl gs) k)) ∧ G = []) (e_call (vs := [.slice Ov _ ov]) Tryz.func73 rfl (by kernel_rfl) rfl) rfl (fun w fr1 hfr hM => sortS_on _ w fr1 Ov ov _ (chgTo (fpl fs) (fpl gs) k) hM (by omega)) rfl rfl rfl ?_
      rintro _ _ _ ⟨rfl, rfl, rfl⟩
      refine gops_nil ?_
      refine hN12 _ _ ?_
      refine gT [box b2 _, box b3 _, box b16 _, rowl _ _ _ _ _ _, rowl _ _ _ _ _ _] rfl ?_
      refine gfrom [(5, .slice Ov _ ov)] ⟨rfl, trivial⟩ fun σ => ?_
      refine gseq fun N13 hN13 => ?_
      refine greg ?_
      refine gop (y_move (v := .slice Ov _ ov) rfl) rfl rfl rfl ?_
      refine gop_does1 4 (fun v r2 G => r2 = rowl strCells w.heap.size 9 1 (v) (leafS (chgTo (fpl fs) (fpl gs) k)) ∧ G = []) (e_call (vs := [.slice Ov _ ov]) Tryz.func74 rfl (by kernel_rfl) rfl) rfl (fun w fr1 hfr hM => compactS_on _ w fr1 Ov ov _ (chgTo (fpl fs) (fpl gs) k) _ rfl hM (by omega)) rfl rfl rfl ?_
      rintro v70 _ _ ⟨rfl, rfl⟩
      refine gop (y_assign (v := v70) rfl) rfl rfl rfl ?_
      refine gops_nil ?_
      refine hN13 _ _ ?_
      refine gT [box b2 _, box b3 _, box b16 _, rowl _ _ _ _ _ _, rowl _ _ _ _ _ _] rfl ?_
      refine gfrom [(4, v70)] ⟨rfl, trivial⟩ fun σ => ?_
      refine gret fun w1 hM => ?_
      refine ⟨_, res1 rfl (rt (v := v70) rfl), ?_⟩
      have h9 := hM.dropTo 4 rfl
      rw [hca] at h9
      exact ⟨_, _, rfl, rfl, h9⟩
end Go.Proofs.YtbkameioedmlkaaGreatDoor
namespace Go.Proofs.YtbkameioedmlkaaGreatDoor
open Go.RowKit Go.Cf
set_option maxRecDepth 10000
set_option maxHeartbeats 1000000 in
theorem fault_any (w : World) (c i : Int) : Calls Tryz.prog 20 #[.int .i64 c, .int .i64 i] w fun e w' => e = .returned (fv ⟨c, i⟩) ∧ Below w.heap.size w w' := by
  refine gcalls Tryz.func20 rfl Tryz.ntmps20 (Nat.le_of_ble_eq_true rfl) ?_
  refine gfrom [(0, .int _ _), (1, .int _ _)] ⟨rfl, rfl, trivial⟩ fun σ => ?_
  refine gseq fun N1 hN1 => ?_
  refine greg ?_
  refine gop_alloc (cs := #[.int .i64 0, .int .i64 0]) Tryz.zeroValue33 rfl rfl (fun b4 hb4 => ?_)
  refine gops_nil ?_
  refine hN1 _ _ ?_
  refine gT [box b4 _] rfl ?_
  refine gfrom [(0, .int _ _), (1, .int _ _), (4, .pointer _)] ⟨rfl, rfl, rfl, trivial⟩ fun σ => ?_
  refine gseq fun N2 hN2 => ?_
  refine greg ?_
  refine gop (y_move (v := .int _ _) rfl) rfl rfl rfl ?_
  refine gop (y_move (v := .int _ _) rfl) rfl rfl rfl ?_
  refine gop (y_build (vs := [(0, .int _ _), (1, .int _ _)]) (cells := #[_, _]) rfl (bd33_0_1 _ _)) rfl rfl rfl ?_
  refine gop_store 0 (v := .agg #[_, _]) (cs' := #[_, _]) rfl rfl Tryz.sizeOf33 rfl rfl rfl rfl (Nat.le_of_ble_eq_true rfl) rfl rfl ?_
  refine gops_nil ?_
  refine hN2 _ _ ?_
  refine gT [box b4 _] rfl ?_
  refine gfrom [(4, .pointer _)] ⟨rfl, trivial⟩ fun σ => ?_
  refine gret fun w1 hM => ?_
  refine ⟨_, res1 rfl (rc 0 (cs := [_, _]) hM rfl rfl Tryz.isAgg33 Tryz.sizeOf33 rfl), ?_⟩
  exact ⟨rfl, hM.low⟩
set_option maxHeartbeats 4000000 in
theorem refRuleCode_any (w : World) (pat : ByteArray) (us : List Int) (A : Option Addr) (c : Nat) (hR : RuleR w 0 ⟨⟨pat, us⟩, A, c⟩) : Calls Tryz.prog 48 #[.agg #[.string pat, .slice A us.length c]] w fun e w' => e = .returned (.int .i64 (ruleCode ⟨pat, us⟩)) ∧ Below w.heap.size w w' := by
  have hmx : c ≤ maxLen := hR.sb.max
  have hln : us.length ≤ c := hR.sb.len
  have hrd : Rdl w 0 1 intCells A us := hR.rd
  unfold maxLen at hmx
  refine gcalls Tryz.func48 rfl Tryz.ntmps48 (Nat.le_of_ble_eq_true rfl) ?_
  refine gfrom [(0, .agg #[_, _])] ⟨rfl, trivial⟩ fun σ => ?_
  refine gseq fun N1 hN1 => ?_
  refine greg ?_
  refine gop_box (v := .agg #[_, _]) (cs := #[_, _]) rfl rfl rfl (fun b1 hb1 => ?_)
  refine gop (y_assign (v := .int _ _) rfl) rfl rfl rfl ?_
  refine gops_nil ?_
  refine hN1 _ _ ?_
  refine gT [box b1 _] rfl ?_
  refine gfrom [(1, .pointer _)] ⟨rfl, trivial⟩ fun σ => ?_
  refine gseq fun N2 hN2 => ?_
  refine gseq fun N3 hN3 => ?_
  refine greg ?_
  refine gop (y_fieldAddr_box fa89_0 rfl) rfl rfl rfl ?_
  refine gop (y_load Tryz.isAgg9 rfl (cell_box 0 rfl rfl)) rfl rfl rfl ?_
  refine gop_pure (e_call (vs := [.string _]) Tryz.func86 rfl (by kernel_rfl) rfl) (fun w hM => patternCode_any w _) rfl rfl rfl ?_
  refine gop (y_neq rfl rfl) rfl rfl rfl ?_
  refine gops_nil ?_
  refine hN3 _ _ ?_
  refine gfrom [(1, .pointer _), (8, .bool _)] ⟨rfl, rfl, trivial⟩ fun σ => ?_
  refine gcond (b := _) rfl (fun hc8 => ?_) (fun hc8 => ?_)
  · 
    replace hc8 := of_decide_eq_true hc8
    have hC : ruleCode ⟨pat, us⟩ = (patCode pat : Int) := by rw [ruleCode, if_pos (show patCode pat ≠ 0 by omega)]
    refine gseq fun N4 hN4 => ?_
    refine greg ?_
    refine gop (y_fieldAddr_box fa89_0 rfl) rfl rfl rfl ?_
    refine gop (y_load Tryz.isAgg9 rfl (cell_box 0 rfl rfl)) rfl rfl rfl ?_
    refine gop_pure (e_call (vs := [.string _]) Tryz.func86 rfl (by kernel_rfl) rfl) (fun w hM => patternCode_any w _) rfl rfl rfl ?_
    refine gop (y_assign (v := .int _ _) rfl) rfl rfl rfl ?_
    refine gops_nil ?_
    refine hN4 _ _ ?_
    refine gfrom [(2, .int _ _)] ⟨rfl, trivial⟩ fun σ => ?_
    refine gret fun w1 hM => ?_
    refine ⟨_, res1 rfl (rt (v := .int _ _) rfl), ?_⟩
    exact ⟨by rw [hC], hM.low⟩
  · 
    replace hc8 := Decidable.not_not.1 (of_decide_eq_false hc8)
    have hp0 : patCode pat = 0 := by omega
    refine gskip ?_
    refine hN2 _ _ ?_
    refine gfrom [(1, .pointer _)] ⟨rfl, trivial⟩ fun σ => ?_
    refine gseq fun N5 hN5 => ?_
    refine gseq fun N6 hN6 => ?_
    refine greg ?_
    refine gop (y_fieldAddr_box fa89_1 rfl) rfl rfl rfl ?_
    refine gop (y_load Tryz.isAgg74 rfl (cell_box 0 rfl rfl)) rfl rfl rfl ?_
    refine gop (y_len Tryz.underlying74 rfl) rfl rfl rfl ?_
    refine gop (y_gtr rfl rfl) rfl rfl rfl ?_
    refine gops_nil ?_
    refine hN6 _ _ ?_
    refine gfrom [(1, .pointer _), (15, .bool _)] ⟨rfl, rfl, trivial⟩ fun σ => ?_
    refine gcond (b := _) rfl (fun hc15 => ?_) (fun hc15 => ?_)
    · 
      replace hc15 := of_decide_eq_true hc15
      have hC : ruleCode ⟨pat, us⟩ = 2 := by rw [ruleCode, if_neg (fun h => h hp0), if_pos (show 4 < us.length by omega)]
      refine gseq fun N7 hN7 => ?_
      refine greg ?_
      refine gop (y_assign (v := .int _ _) rfl) rfl rfl rfl ?_
      refine gops_nil ?_
      refine hN7 _ _ ?_
      refine gfrom [(2, .int _ _)] ⟨rfl, trivial⟩ fun σ => ?_
      refine gret fun w1 hM => ?_
      refine ⟨_, res1 rfl (rt (v := .int _ _) rfl), ?_⟩
      exact ⟨by rw [hC], hM.low⟩
    · 
      replace hc15 := of_decide_eq_false hc15
      have hC : ruleCode ⟨pat, us⟩ = uCode (-1) us := by rw [ruleCode, if_neg (fun h => h hp0), if_neg (show ¬ 4 < us.length by omega)]
      refine gskip ?_
      refine hN5 _ _ ?_
      refine gfrom [(1, .pointer _)] ⟨rfl, trivial⟩ fun σ => ?_
      refine gseq fun N8 hN8 => ?_
      refine greg ?_
      refine gop (y_assign (v := .int _ _) rfl) rfl rfl rfl ?_
      refine gops_nil ?_
      refine hN8 _ _ ?_
      refine gfrom [(1, .pointer _), (3, .int _ _)] ⟨rfl, rfl, trivial⟩ fun σ => ?_
      refine gseq fun N9 hN9 => ?_
      refine gseq fun N10 hN10 => ?_
      refine greg ?_
      refine gop (y_assign (v := .int _ _) rfl) rfl rfl rfl ?_
      refine gops_nil ?_
      refine hN10 _ _ ?_
      refine gfrom [(1, .pointer _), (3, .int _ _), (4, .int _ _)] ⟨rfl, rfl, rfl, trivial⟩ fun σ => ?_
      refine gblock ?_
      refine gfrom2 [(3, .int _ _), (4, .int _ _)] [(1, .pointer _)] ⟨rfl, rfl, trivial⟩ ⟨rfl, trivial⟩ fun σ => ?_
      refine gloop2 (G := Nat) (fun k => k ≤ us.length ∧ uCode (prevU us k) (us.drop k) = uCode (-1) us) (fun k => us.length - k) (fun k => [(3, .int .i64 (prevU us k)), (4, .int .i64 (k : Int))]) (fun k => []) (0) ?h0 ⟨rfl, rfl, trivial⟩ ⟨rfl, trivial⟩ rfl ?round
      case h0 => exact ⟨Nat.zero_le _, rfl⟩
      case round =>
        intro k hφ σ
        obtain ⟨hk, hu⟩ := hφ
        refine gseq fun N11 hN11 => ?_
        refine gseq fun N12 hN12 => ?_
        refine greg ?_
        refine gop (y_move (v := .int _ _) rfl) rfl rfl rfl ?_
        refine gop (y_fieldAddr_box fa89_1 rfl) rfl rfl rfl ?_
        refine gop (y_load Tryz.isAgg74 rfl (cell_box 0 rfl rfl)) rfl rfl rfl ?_
        refine gop (y_len Tryz.underlying74 rfl) rfl rfl rfl ?_
        refine gop (y_lss rfl rfl) rfl rfl rfl ?_
        refine gops_nil ?_
        refine hN12 _ _ ?_
        refine gfrom [(1, .pointer _), (3, .int _ _), (4, .int _ _), (20, .bool _)] ⟨rfl, rfl, rfl, rfl, trivial⟩ fun σ => ?_
        refine gcond (b := _) rfl (fun hc20 => ?_) (fun hc20 => ?_)
        · 
          replace hc20 := of_decide_eq_true hc20
          have hk1 : k < us.length := by omega
          obtain ⟨ad, rfl, -, hca⟩ := hrd.at_ hk1
          refine gskip ?_
          refine hN11 _ _ ?_
          refine gfrom [(1, .pointer _), (3, .int _ _), (4, .int _ _)] ⟨rfl, rfl, rfl, trivial⟩ fun σ => ?_
          refine gseq fun N13 hN13 => ?_
          refine gblock ?_
          refine gseq fun N14 hN14 => ?_
          refine gseq fun N15 hN15 => ?_
          refine greg ?_
          refine gop (y_fieldAddr_box fa89_1 rfl) rfl rfl rfl ?_
          refine gop (y_load Tryz.isAgg74 rfl (cell_box 0 rfl rfl)) rfl rfl rfl ?_
          refine gop (y_move (v := .int _ _) rfl) rfl rfl rfl ?_
          refine gop (y_indexAddr (m := k) Tryz.underlying74 Tryz.sizeOf3 rfl rfl (by omega) (by omega) (by omega)) rfl rfl rfl ?_
          refine gop (y_load Tryz.isAgg3 rfl (cell_base (hca 0 _ rfl))) rfl rfl rfl ?_
          refine gop (y_lss rfl rfl) rfl rfl rfl ?_
          refine gop (y_move (v := .bool _) rfl) rfl rfl rfl ?_
          refine gop_if (want := false) rfl rfl rfl rfl rfl rfl (fun hg29 => ?_) (fun hg29 => ?_)
          · 
            have hg29d := of_decide_eq_false hg29
            refine gop (y_bare (y_fieldAddr_box fa89_1 rfl)) rfl rfl rfl ?_
            refine gop_on rfl rfl rfl rfl hg29 ?_
            refine gop (y_bare (y_load Tryz.isAgg74 rfl (cell_box 0 rfl rfl))) rfl rfl rfl ?_
            refine gop_on rfl rfl rfl rfl hg29 ?_
            refine gop (y_bare (y_move (v := .int _ _) rfl)) rfl rfl rfl ?_
            refine gop_on rfl rfl rfl rfl hg29 ?_
            refine gop (y_bare (y_indexAddr (m := k) Tryz.underlying74 Tryz.sizeOf3 rfl rfl (by omega) (by omega) (by omega))) rfl rfl rfl ?_
            refine gop_on rfl rfl rfl rfl hg29 ?_
            refine gop (y_bare (y_load Tryz.isAgg3 rfl (cell_base (hca 0 _ rfl)))) rfl rfl rfl ?_
            refine gop_on rfl rfl rfl rfl hg29 ?_
            refine gop (y_bare (y_gtr rfl rfl)) rfl rfl rfl ?_
            refine gop (y_pick_f (v := .bool _) rfl hg29 rfl) rfl rfl rfl ?_
            refine gops_nil ?_
            refine hN15 _ _ ?_
            refine gfrom [(1, .pointer _), (3, .int _ _), (4, .int _ _), (36, .bool _)] ⟨rfl, rfl, rfl, rfl, trivial⟩ fun σ => ?_
            refine gcond (b := _) rfl (fun hc36 => ?_) (fun hc36 => ?_)
            · 
              replace hc36 := of_decide_eq_true hc36
              refine gseq fun N16 hN16 => ?_
              refine greg ?_
              refine gop (y_assign (v := .int _ _) rfl) rfl rfl rfl ?_
              refine gops_nil ?_
              refine hN16 _ _ ?_
              refine gfrom [(2, .int _ _)] ⟨rfl, trivial⟩ fun σ => ?_
              refine gret fun w1 hM => ?_
              refine ⟨_, res1 rfl (rt (v := .int _ _) rfl), ?_⟩
              exact ⟨by rw [hC, ← hu, uCode_bad hk1 (by omega)], hM.low⟩
            · 
              replace hc36 := of_decide_eq_false hc36
              refine gskip ?_
              refine hN14 _ _ ?_
              refine gfrom [(1, .pointer _), (3, .int _ _), (4, .int _ _)] ⟨rfl, rfl, rfl, trivial⟩ fun σ => ?_
              refine gseq fun N17 hN17 => ?_
              refine gseq fun N18 hN18 => ?_
              refine greg ?_
              refine gop (y_fieldAddr_box fa89_1 rfl) rfl rfl rfl ?_
              refine gop (y_load Tryz.isAgg74 rfl (cell_box 0 rfl rfl)) rfl rfl rfl ?_
              refine gop (y_move (v := .int _ _) rfl) rfl rfl rfl ?_
              refine gop (y_indexAddr (m := k) Tryz.underlying74 Tryz.sizeOf3 rfl rfl (by omega) (by omega) (by omega)) rfl rfl rfl ?_
              refine gop (y_load Tryz.isAgg3 rfl (cell_base (hca 0 _ rfl))) rfl rfl rfl ?_
              refine gop (y_move (v := .int _ _) rfl) rfl rfl rfl ?_
              refine gop (y_leq rfl rfl) rfl rfl rfl ?_
              refine gops_nil ?_
              refine hN18 _ _ ?_
              refine gfrom [(1, .pointer _), (4, .int _ _), (43, .bool _)] ⟨rfl, rfl, rfl, trivial⟩ fun σ => ?_
              refine gcond (b := _) rfl (fun hc43 => ?_) (fun hc43 => ?_)
              · 
                replace hc43 := of_decide_eq_true hc43
                refine gseq fun N19 hN19 => ?_
                refine greg ?_
                refine gop (y_assign (v := .int _ _) rfl) rfl rfl rfl ?_
                refine gops_nil ?_
                refine hN19 _ _ ?_
                refine gfrom [(2, .int _ _)] ⟨rfl, trivial⟩ fun σ => ?_
                refine gret fun w1 hM => ?_
                refine ⟨_, res1 rfl (rt (v := .int _ _) rfl), ?_⟩
                exact ⟨by rw [hC, ← hu, uCode_old hk1 (by omega) hc43], hM.low⟩
              · 
                replace hc43 := of_decide_eq_false hc43
                refine gskip ?_
                refine hN17 _ _ ?_
                refine gfrom [(1, .pointer _), (4, .int _ _)] ⟨rfl, rfl, trivial⟩ fun σ => ?_
                refine greg ?_
                refine gop (y_fieldAddr_box fa89_1 rfl) rfl rfl rfl ?_
                refine gop (y_load Tryz.isAgg74 rfl (cell_box 0 rfl rfl)) rfl rfl rfl ?_
                refine gop (y_move (v := .int _ _) rfl) rfl rfl rfl ?_
                refine gop (y_indexAddr (m := k) Tryz.underlying74 Tryz.sizeOf3 rfl rfl (by omega) (by omega) (by omega)) rfl rfl rfl ?_
                refine gop (y_load Tryz.isAgg3 rfl (cell_base (hca 0 _ rfl))) rfl rfl rfl ?_
                refine gop (y_assign (v := .int _ _) rfl) rfl rfl rfl ?_
                refine gops_nil ?_
                refine hN13 _ _ ?_
                refine gfrom [(1, .pointer _), (3, .int _ _), (4, .int _ _)] ⟨rfl, rfl, rfl, trivial⟩ fun σ => ?_
                refine greg ?_
                refine gop (y_move (v := .int _ _) rfl) rfl rfl rfl ?_
                refine gop (y_add rfl rfl ⟨by omega, by omega⟩) rfl rfl rfl ?_
                refine gop (y_assign (v := .int _ _) rfl) rfl rfl rfl ?_
                refine gops_nil ?_
                refine gnext2 (k + 1) (by omega) (⟨by omega, (uCode_next hk1 (by omega) hc43).symm.trans hu⟩) ⟨congrArg (Value.int .i64) (prevU_succ hk1).symm, rfl, trivial⟩ ⟨rfl, trivial⟩ ⟨_, rfl⟩
          · 
            have hg29d := of_decide_eq_true hg29
            refine gop_off rfl rfl rfl rfl hg29 rfl rfl ?_
            refine gop_off rfl rfl rfl rfl hg29 rfl rfl ?_
            refine gop_off rfl rfl rfl rfl hg29 rfl rfl ?_
            refine gop_off rfl rfl rfl rfl hg29 rfl rfl ?_
            refine gop_off rfl rfl rfl rfl hg29 rfl rfl ?_
            refine gop (y_pick_t (v := .bool _) rfl hg29 rfl) rfl rfl rfl ?_
            refine gops_nil ?_
            refine hN15 _ _ ?_
            refine gfrom [(1, .pointer _), (3, .int _ _), (4, .int _ _), (36, .bool _)] ⟨rfl, rfl, rfl, rfl, trivial⟩ fun σ => ?_
            refine gcond (b := _) rfl (fun hc36 => ?_) (fun hc36 => ?_)
            · 
              refine gseq fun N20 hN20 => ?_
              refine greg ?_
              refine gop (y_assign (v := .int _ _) rfl) rfl rfl rfl ?_
              refine gops_nil ?_
              refine hN20 _ _ ?_
              refine gfrom [(2, .int _ _)] ⟨rfl, trivial⟩ fun σ => ?_
              refine gret fun w1 hM => ?_
              refine ⟨_, res1 rfl (rt (v := .int _ _) rfl), ?_⟩
              exact ⟨by rw [hC, ← hu, uCode_bad hk1 (by omega)], hM.low⟩
            · 
              cases hc36
        · 
          replace hc20 := of_decide_eq_false hc20
          have hE : uCode (-1) us = 0 := by rw [← hu]; exact uCode_end (by omega)
          refine gexit ?_
          refine hN9 _ _ ?_
          refine gfrom [] trivial fun σ => ?_
          refine gseq fun N21 hN21 => ?_
          refine greg ?_
          refine gop (y_assign (v := .int _ _) rfl) rfl rfl rfl ?_
          refine gops_nil ?_
          refine hN21 _ _ ?_
          refine gfrom [(2, .int _ _)] ⟨rfl, trivial⟩ fun σ => ?_
          refine gret fun w1 hM => ?_
          refine ⟨_, res1 rfl (rt (v := .int _ _) rfl), ?_⟩
          exact ⟨by rw [hC, hE], hM.low⟩
set_option maxHeartbeats 2000000 in
theorem refRulesFault_any (w : World) (A : Option Addr) (c : Nat) (rs : List RuleC) (hR : RulesR w 0 A c rs) : Calls Tryz.prog 19 #[.slice A rs.length c] w fun e w' => e = .returned (fv (rulesF (rls rs))) ∧ Below w.heap.size w w' := by
  have hln := hR.sb.len
  have hmx := hR.sb.max
  unfold maxLen at hmx
  refine gcalls Tryz.func19 rfl Tryz.ntmps19 (Nat.le_of_ble_eq_true rfl) ?_
  refine gfrom [(0, .slice _ _ _)] ⟨rfl, trivial⟩ fun σ => ?_
  refine gseq fun N1 hN1 => ?_
  refine greg ?_
  refine gop_alloc (cs := #[.int .i64 0, .int .i64 0]) Tryz.zeroValue33 rfl rfl (fun b2 hb2 => ?_)
  refine gops_nil ?_
  refine hN1 _ _ ?_
  refine gT [box b2 _] rfl ?_
  refine gfrom [(0, .slice _ _ _), (2, .pointer _)] ⟨rfl, rfl, trivial⟩ fun σ => ?_
  refine gseq fun N2 hN2 => ?_
  refine gseq fun N3 hN3 => ?_
  refine greg ?_
  refine gop (y_move (v := .slice _ _ _) rfl) rfl rfl rfl ?_
  refine gop (y_len Tryz.underlying57 rfl) rfl rfl rfl ?_
  refine gop (y_gtr rfl rfl) rfl rfl rfl ?_
  refine gops_nil ?_
  refine hN3 _ _ ?_
  refine gfrom [(0, .slice _ _ _), (2, .pointer _), (6, .bool _)] ⟨rfl, rfl, rfl, trivial⟩ fun σ => ?_
  refine gcond (b := _) rfl (fun hc6 => ?_) (fun hc6 => ?_)
  · 
    replace hc6 := of_decide_eq_true hc6
    have hF : rulesF (rls rs) = ⟨2, -1⟩ := by rw [rulesF, if_pos (by simp; omega)]
    refine gseq fun N4 hN4 => ?_
    refine greg ?_
    refine gop (y_build (vs := [(0, _), (1, _)]) (cells := #[_, _]) rfl (bd33_0_1 _ _)) rfl rfl rfl ?_
    refine gop_store 0 (v := .agg #[_, _]) (cs' := #[_, _]) rfl rfl Tryz.sizeOf33 rfl rfl rfl rfl (Nat.le_of_ble_eq_true rfl) rfl rfl ?_
    refine gops_nil ?_
    refine hN4 _ _ ?_
    refine gT [box b2 _] rfl ?_
    refine gfrom [(2, .pointer _)] ⟨rfl, trivial⟩ fun σ => ?_
    refine gret fun w1 hM => ?_
    refine ⟨_, res1 rfl (rc 0 (cs := [_, _]) hM rfl rfl Tryz.isAgg33 Tryz.sizeOf33 rfl), ?_⟩
    exact ⟨by rw [hF], hM.low⟩
  · 
    replace hc6 := of_decide_eq_false hc6
    have hF : rulesF (rls rs) = scan (fun _ r => ruleCode r) (rls rs) := by rw [rulesF, if_neg (by simp; omega)]
    refine gskip ?_
    refine hN2 _ _ ?_
    refine gfrom [(0, .slice _ _ _), (2, .pointer _)] ⟨rfl, rfl, trivial⟩ fun σ => ?_
    refine gseq fun N5 hN5 => ?_
    refine gseq fun N6 hN6 => ?_
    refine greg ?_
    refine gop (y_assign (v := .int _ _) rfl) rfl rfl rfl ?_
    refine gops_nil ?_
    refine hN6 _ _ ?_
    refine gfrom [(0, .slice _ _ _), (2, .pointer _), (3, .int _ _)] ⟨rfl, rfl, rfl, trivial⟩ fun σ => ?_
    refine gblock ?_
    refine gfrom2 [(3, .int _ _)] [(0, .slice _ _ _), (2, .pointer _)] ⟨rfl, trivial⟩ ⟨rfl, rfl, trivial⟩ fun σ => ?_
    refine gloop2 (G := Nat) (fun k => k ≤ rs.length ∧ ∀ j (h : j < rs.length), j < k → ruleCode rs[j].pl = 0) (fun k => rs.length - k) (fun k => [(3, .int .i64 (k : Int))]) (fun k => []) (0) ?h0 ⟨rfl, trivial⟩ ⟨rfl, rfl, trivial⟩ rfl ?round
    case h0 => exact ⟨Nat.zero_le _, fun _ _ h => absurd h (by omega)⟩
    case round =>
      intro k hφ σ
      obtain ⟨hk, hz⟩ := hφ
      refine gseq fun N7 hN7 => ?_
      refine gseq fun N8 hN8 => ?_
      refine greg ?_
      refine gop (y_move (v := .int _ _) rfl) rfl rfl rfl ?_
      refine gop (y_move (v := .slice _ _ _) rfl) rfl rfl rfl ?_
      refine gop (y_len Tryz.underlying57 rfl) rfl rfl rfl ?_
      refine gop (y_lss rfl rfl) rfl rfl rfl ?_
      refine gops_nil ?_
      refine hN8 _ _ ?_
      refine gfrom [(0, .slice _ _ _), (2, .pointer _), (3, .int _ _), (11, .bool _)] ⟨rfl, rfl, rfl, rfl, trivial⟩ fun σ => ?_
      refine gcond (b := _) rfl (fun hc11 => ?_) (fun hc11 => ?_)
      · 
        replace hc11 := of_decide_eq_true hc11
        have hk1 : k < rs.length := by omega
        obtain ⟨ad, rfl, -, hca⟩ := hR.rd.at_ hk1
        refine gskip ?_
        refine hN7 _ _ ?_
        refine gfrom [(0, .slice _ _ _), (2, .pointer _), (3, .int _ _)] ⟨rfl, rfl, rfl, trivial⟩ fun σ => ?_
        refine gseq fun N9 hN9 => ?_
        refine gblock ?_
        refine gseq fun N10 hN10 => ?_
        refine greg ?_
        refine gop (y_move (v := .slice _ _ _) rfl) rfl rfl rfl ?_
        refine gop (y_move (v := .int _ _) rfl) rfl rfl rfl ?_
        refine gop (y_indexAddr (m := k) Tryz.underlying57 Tryz.sizeOf89 rfl rfl (by omega) (by omega) (by omega)) rfl rfl rfl ?_
        refine gop (y_loads (cs := [_, _]) Tryz.isAgg89 Tryz.sizeOf89 rfl rfl (cells_base hca)) rfl rfl rfl ?_
        refine gop_pure (e_call (vs := [.agg #[_, _]]) Tryz.func48 rfl (by kernel_rfl) rfl) (fun w hM => refRuleCode_any w rs[k].pl.pat rs[k].pl.users rs[k].A rs[k].c (RuleR.lasts.base (hR.each _ (List.getElem_mem hk1)) hM)) rfl rfl rfl ?_
        refine gop (y_neq rfl rfl) rfl rfl rfl ?_
        refine gops_nil ?_
        refine hN10 _ _ ?_
        refine gfrom [(0, .slice _ _ _), (2, .pointer _), (3, .int _ _), (19, .bool _)] ⟨rfl, rfl, rfl, rfl, trivial⟩ fun σ => ?_
        refine gcond (b := _) rfl (fun hc19 => ?_) (fun hc19 => ?_)
        · 
          replace hc19 := of_decide_eq_true hc19
          refine gseq fun N11 hN11 => ?_
          refine greg ?_
          refine gop (y_move (v := .slice _ _ _) rfl) rfl rfl rfl ?_
          refine gop (y_move (v := .int _ _) rfl) rfl rfl rfl ?_
          refine gop (y_indexAddr (m := k) Tryz.underlying57 Tryz.sizeOf89 rfl rfl (by omega) (by omega) (by omega)) rfl rfl rfl ?_
          refine gop (y_loads (cs := [_, _]) Tryz.isAgg89 Tryz.sizeOf89 rfl rfl (cells_base hca)) rfl rfl rfl ?_
          refine gop_pure (e_call (vs := [.agg #[_, _]]) Tryz.func48 rfl (by kernel_rfl) rfl) (fun w hM => refRuleCode_any w rs[k].pl.pat rs[k].pl.users rs[k].A rs[k].c (RuleR.lasts.base (hR.each _ (List.getElem_mem hk1)) hM)) rfl rfl rfl ?_
          refine gop (y_move (v := .int _ _) rfl) rfl rfl rfl ?_
          refine gop (y_build (vs := [(0, .int _ _), (1, .int _ _)]) (cells := #[_, _]) rfl (bd33_0_1 _ _)) rfl rfl rfl ?_
          refine gop_store 0 (v := .agg #[_, _]) (cs' := #[_, _]) rfl rfl Tryz.sizeOf33 rfl rfl rfl rfl (Nat.le_of_ble_eq_true rfl) rfl rfl ?_
          refine gops_nil ?_
          refine hN11 _ _ ?_
          refine gT [box b2 _] rfl ?_
          refine gfrom [(2, .pointer _)] ⟨rfl, trivial⟩ fun σ => ?_
          refine gret fun w1 hM => ?_
          refine ⟨_, res1 rfl (rc 0 (cs := [_, _]) hM rfl rfl Tryz.isAgg33 Tryz.sizeOf33 rfl), ?_⟩
          have hs := scan_at (f := fun _ r => ruleCode r) (l := rls rs) (k := k) (by simpa using hk1) (fun j h hj => by simpa using hz j (by simpa using h) hj) (by simpa using hc19)
          exact ⟨by rw [hF, hs]; simp, hM.low⟩
        · 
          replace hc19 := Decidable.not_not.1 (of_decide_eq_false hc19)
          refine gskip ?_
          refine hN9 _ _ ?_
          refine gfrom [(0, .slice _ _ _), (2, .pointer _), (3, .int _ _)] ⟨rfl, rfl, rfl, trivial⟩ fun σ => ?_
          refine greg ?_
          refine gop (y_move (v := .int _ _) rfl) rfl rfl rfl ?_
          refine gop (y_add rfl rfl ⟨by omega, by omega⟩) rfl rfl rfl ?_
          refine gop (y_assign (v := .int _ _) rfl) rfl rfl rfl ?_
          refine gops_nil ?_
          refine gnext2 (k + 1) (by omega) (⟨by omega, fun j h hj => by rcases Nat.lt_succ_iff_lt_or_eq.1 hj with h1 | rfl; exact hz j h h1; exact hc19⟩) ⟨rfl, trivial⟩ ⟨rfl, rfl, trivial⟩ ⟨_, rfl⟩
      · 
        replace hc11 := of_decide_eq_false hc11
        have hF2 : rulesF (rls rs) = ⟨0, 0⟩ := by rw [hF]; exact scan_ok fun j hj => by simpa using hz j (by simpa using hj) (by simp at hj; omega)
        refine gexit ?_
        refine hN5 _ _ ?_
        refine gfrom [(2, .pointer _)] ⟨rfl, trivial⟩ fun σ => ?_
        refine gseq fun N12 hN12 => ?_
        refine greg ?_
        refine gop (y_build (vs := []) (cells := #[.int .i64 0, .int .i64 0]) rfl bd33_) rfl rfl rfl ?_
        refine gop_store 0 (v := .agg #[_, _]) (cs' := #[_, _]) rfl rfl Tryz.sizeOf33 rfl rfl rfl rfl (Nat.le_of_ble_eq_true rfl) rfl rfl ?_
        refine gops_nil ?_
        refine hN12 _ _ ?_
        refine gT [box b2 _] rfl ?_
        refine gfrom [(2, .pointer _)] ⟨rfl, trivial⟩ fun σ => ?_
        refine gret fun w1 hM => ?_
        refine ⟨_, res1 rfl (rc 0 (cs := [_, _]) hM rfl rfl Tryz.isAgg33 Tryz.sizeOf33 rfl), ?_⟩
        exact ⟨by rw [hF2], hM.low⟩
set_option maxHeartbeats 2000000 in
theorem refOwners_any (w : World) (A : Option Addr) (c : Nat) (rs : List RuleC) (hR : RulesR w 0 A c rs) (path : ByteArray) (hps : ∀ a ∈ rs, a.pl.pat.size ≤ 4000000) (hs : path.size ≤ 4000000) : Calls Tryz.prog 22 #[.slice A rs.length c, .string path] w fun e w' => e = .returned (ownV rs path) ∧ Below w.heap.size w w' := by
  have hln := hR.sb.len
  have hmx := hR.sb.max
  unfold maxLen at hmx
  refine gcalls Tryz.func22 rfl Tryz.ntmps22 (Nat.le_of_ble_eq_true rfl) ?_
  refine gfrom [(0, .slice _ _ _), (1, .string _)] ⟨rfl, rfl, trivial⟩ fun σ => ?_
  refine gseq fun N1 hN1 => ?_
  refine greg ?_
  refine gop (y_assign (v := .slice _ _ _) rfl) rfl rfl rfl ?_
  refine gops_nil ?_
  refine hN1 _ _ ?_
  refine gfrom [(0, .slice _ _ _), (1, .string _)] ⟨rfl, rfl, trivial⟩ fun σ => ?_
  refine gseq fun N2 hN2 => ?_
  refine greg ?_
  refine gop (y_assign (v := .slice _ _ _) rfl) rfl rfl rfl ?_
  refine gops_nil ?_
  refine hN2 _ _ ?_
  refine gfrom [(0, .slice _ _ _), (1, .string _), (5, .slice _ _ _)] ⟨rfl, rfl, rfl, trivial⟩ fun σ => ?_
  refine gseq fun N3 hN3 => ?_
  refine gseq fun N4 hN4 => ?_
  refine greg ?_
  refine gop (y_assign (v := .int _ _) rfl) rfl rfl rfl ?_
  refine gops_nil ?_
  refine hN4 _ _ ?_
  refine gfrom [(0, .slice _ _ _), (1, .string _), (5, .slice _ _ _), (6, .int _ _)] ⟨rfl, rfl, rfl, rfl, trivial⟩ fun σ => ?_
  refine gblock ?_
  refine gfrom2 [(5, .slice _ _ _), (6, .int _ _)] [(0, .slice _ _ _), (1, .string _)] ⟨rfl, rfl, trivial⟩ ⟨rfl, rfl, trivial⟩ fun σ => ?_
  refine gloop2 (G := Nat × Option Addr × Nat × Nat) (fun (k, B, n, d) => k ≤ rs.length ∧ ownV (rs.take k) path = .slice B n d) (fun (k, B, n, d) => rs.length - k) (fun (k, B, n, d) => [(5, .slice B n d), (6, .int .i64 (k : Int))]) (fun (k, B, n, d) => []) ((0, none, 0, 0)) ?h0 ⟨rfl, rfl, trivial⟩ ⟨rfl, rfl, trivial⟩ rfl ?round
  case h0 => exact ⟨Nat.zero_le _, rfl⟩
  case round =>
    rintro ⟨k, B, n, d⟩ hφ σ
    obtain ⟨hk, hv⟩ := hφ
    refine gseq fun N5 hN5 => ?_
    refine gseq fun N6 hN6 => ?_
    refine greg ?_
    refine gop (y_move (v := .int _ _) rfl) rfl rfl rfl ?_
    refine gop (y_move (v := .slice _ _ _) rfl) rfl rfl rfl ?_
    refine gop (y_len Tryz.underlying57 rfl) rfl rfl rfl ?_
    refine gop (y_lss rfl rfl) rfl rfl rfl ?_
    refine gops_nil ?_
    refine hN6 _ _ ?_
    refine gfrom [(0, .slice _ _ _), (1, .string _), (5, .slice B n d), (6, .int _ _), (10, .bool _)] ⟨rfl, rfl, rfl, rfl, rfl, trivial⟩ fun σ => ?_
    refine gcond (b := _) rfl (fun hc10 => ?_) (fun hc10 => ?_)
    · 
      replace hc10 := of_decide_eq_true hc10
      have hk1 : k < rs.length := by omega
      obtain ⟨ad, rfl, -, hca⟩ := hR.rd.at_ hk1
      refine gskip ?_
      refine hN5 _ _ ?_
      refine gfrom [(0, .slice _ _ _), (1, .string _), (5, .slice B n d), (6, .int _ _)] ⟨rfl, rfl, rfl, rfl, trivial⟩ fun σ => ?_
      refine gseq fun N7 hN7 => ?_
      refine gblock ?_
      refine gseq fun N8 hN8 => ?_
      refine greg ?_
      refine gop (y_move (v := .slice _ _ _) rfl) rfl rfl rfl ?_
      refine gop (y_move (v := .int _ _) rfl) rfl rfl rfl ?_
      refine gop (y_indexAddr (m := k) Tryz.underlying57 Tryz.sizeOf89 rfl rfl (by omega) (by omega) (by omega)) rfl rfl rfl ?_
      refine gop (y_fieldAddr_add fa89_0 rfl) rfl rfl rfl ?_
      refine gop (y_load Tryz.isAgg9 rfl (cell_base (hca 0 _ rfl))) rfl rfl rfl ?_
      refine gop (y_move (v := .string _) rfl) rfl rfl rfl ?_
      refine gop_pure (e_call (vs := [.string _, .string _]) Tryz.func50 rfl (by kernel_rfl) rfl) (fun w hM => refMatches_any w _ _ (hps _ (List.getElem_mem hk1)) hs) rfl rfl rfl ?_
      refine gops_nil ?_
      refine hN8 _ _ ?_
      refine gfrom [(0, .slice _ _ _), (1, .string _), (5, .slice B n d), (6, .int _ _), (19, .bool _)] ⟨rfl, rfl, rfl, rfl, rfl, trivial⟩ fun σ => ?_
      refine gcond (b := _) rfl (fun hc19 => ?_) (fun hc19 => ?_)
      · 
        have hm : matchR path rs[k].pl = true := hc19
        refine greg ?_
        refine gop (y_move (v := .slice _ _ _) rfl) rfl rfl rfl ?_
        refine gop (y_move (v := .int _ _) rfl) rfl rfl rfl ?_
        refine gop (y_indexAddr (m := k) Tryz.underlying57 Tryz.sizeOf89 rfl rfl (by omega) (by omega) (by omega)) rfl rfl rfl ?_
        refine gop (y_fieldAddr_add fa89_1 rfl) rfl rfl rfl ?_
        refine gop (y_load Tryz.isAgg74 rfl (cell_base (hca 1 _ rfl))) rfl rfl rfl ?_
        refine gop (y_assign (v := .slice _ _ _) rfl) rfl rfl rfl ?_
        refine gops_nil ?_
        refine hN7 _ _ ?_
        refine gfrom [(0, .slice _ _ _), (1, .string _), (5, .slice _ _ _), (6, .int _ _)] ⟨rfl, rfl, rfl, rfl, trivial⟩ fun σ => ?_
        refine greg ?_
        refine gop (y_move (v := .int _ _) rfl) rfl rfl rfl ?_
        refine gop (y_add rfl rfl ⟨by omega, by omega⟩) rfl rfl rfl ?_
        refine gop (y_assign (v := .int _ _) rfl) rfl rfl rfl ?_
        refine gops_nil ?_
        refine gnext2 ((k + 1, rs[k].A, rs[k].pl.users.length, rs[k].c)) (by show rs.length - (k + 1) < rs.length - k; omega) (⟨by show k + 1 ≤ _; omega, by rw [ownV_next hk1, hm]; rfl⟩) ⟨rfl, rfl, trivial⟩ ⟨rfl, rfl, trivial⟩ ⟨_, rfl⟩
      · 
        have hm : matchR path rs[k].pl = false := hc19
        refine gskip ?_
        refine hN7 _ _ ?_
        refine gfrom [(0, .slice _ _ _), (1, .string _), (5, .slice B n d), (6, .int _ _)] ⟨rfl, rfl, rfl, rfl, trivial⟩ fun σ => ?_
        refine greg ?_
        refine gop (y_move (v := .int _ _) rfl) rfl rfl rfl ?_
        refine gop (y_add rfl rfl ⟨by omega, by omega⟩) rfl rfl rfl ?_
        refine gop (y_assign (v := .int _ _) rfl) rfl rfl rfl ?_
        refine gops_nil ?_
        refine gnext2 ((k + 1, B, n, d)) (by show rs.length - (k + 1) < rs.length - k; omega) (⟨by show k + 1 ≤ _; omega, by rw [ownV_next hk1, hm]; exact hv⟩) ⟨rfl, rfl, trivial⟩ ⟨rfl, rfl, trivial⟩ ⟨_, rfl⟩
    · 
      replace hc10 := of_decide_eq_false hc10
      refine gexit ?_
      refine hN3 _ _ ?_
      refine gfrom [(5, .slice B n d)] ⟨rfl, trivial⟩ fun σ => ?_
      refine gseq fun N9 hN9 => ?_
      refine greg ?_
      refine gop (y_move (v := .slice B n d) rfl) rfl rfl rfl ?_
      refine gop (y_assign (v := .slice B n d) rfl) rfl rfl rfl ?_
      refine gops_nil ?_
      refine hN9 _ _ ?_
      refine gfrom [(4, .slice B n d)] ⟨rfl, trivial⟩ fun σ => ?_
      refine gret fun w1 hM => ?_
      refine ⟨_, res1 rfl (rt (v := .slice B n d) rfl), ?_⟩
      exact ⟨by rw [← hv, List.take_of_length_le (show rs.length ≤ k by omega)], hM.low⟩
set_option maxHeartbeats 2000000 in
theorem meets_any (w : World) (A : Option Addr) (c : Nat) (a : List Int) (ha : Rdl w 0 1 intCells A a) (han : a.length ≤ maxLen) (B : Option Addr) (d : Nat) (b : List Int) (hb : Rdl w 0 1 intCells B b) (hbn : b.length ≤ maxLen) : Calls Tryz.prog 23 #[.slice A a.length c, .slice B b.length d] w fun e w' => e = .returned (.bool (meetsB a b)) ∧ Below w.heap.size w w' := by
  unfold maxLen at han hbn
  refine gcalls Tryz.func23 rfl Tryz.ntmps23 (Nat.le_of_ble_eq_true rfl) ?_
  refine gfrom [(0, .slice _ _ _), (1, .slice _ _ _)] ⟨rfl, rfl, trivial⟩ fun σ => ?_
  refine gseq fun N1 hN1 => ?_
  refine greg ?_
  refine gop (y_assign (v := .bool _) rfl) rfl rfl rfl ?_
  refine gops_nil ?_
  refine hN1 _ _ ?_
  refine gfrom [(0, .slice _ _ _), (1, .slice _ _ _)] ⟨rfl, rfl, trivial⟩ fun σ => ?_
  refine gseq fun N2 hN2 => ?_
  refine gseq fun N3 hN3 => ?_
  refine greg ?_
  refine gop (y_assign (v := .int _ _) rfl) rfl rfl rfl ?_
  refine gops_nil ?_
  refine hN3 _ _ ?_
  refine gfrom [(0, .slice _ _ _), (1, .slice _ _ _), (5, .int _ _)] ⟨rfl, rfl, rfl, trivial⟩ fun σ => ?_
  refine gblock ?_
  refine gfrom2 [(5, .int _ _)] [(0, .slice _ _ _), (1, .slice _ _ _)] ⟨rfl, trivial⟩ ⟨rfl, rfl, trivial⟩ fun σ => ?_
  refine gloop2 (G := Nat) (fun k => k ≤ a.length ∧ ∀ j (h : j < a.length), j < k → hasI b a[j] = false) (fun k => a.length - k) (fun k => [(5, .int .i64 (k : Int))]) (fun k => []) (0) ?h0 ⟨rfl, trivial⟩ ⟨rfl, rfl, trivial⟩ rfl ?round
  case h0 => exact ⟨Nat.zero_le _, fun _ _ h => absurd h (by omega)⟩
  case round =>
    intro k hφ σ
    obtain ⟨hk, hz⟩ := hφ
    refine gseq fun N4 hN4 => ?_
    refine gseq fun N5 hN5 => ?_
    refine greg ?_
    refine gop (y_move (v := .int _ _) rfl) rfl rfl rfl ?_
    refine gop (y_move (v := .slice _ _ _) rfl) rfl rfl rfl ?_
    refine gop (y_len Tryz.underlying74 rfl) rfl rfl rfl ?_
    refine gop (y_lss rfl rfl) rfl rfl rfl ?_
    refine gops_nil ?_
    refine hN5 _ _ ?_
    refine gfrom [(0, .slice _ _ _), (1, .slice _ _ _), (5, .int _ _), (10, .bool _)] ⟨rfl, rfl, rfl, rfl, trivial⟩ fun σ => ?_
    refine gcond (b := _) rfl (fun hc10 => ?_) (fun hc10 => ?_)
    · 
      replace hc10 := of_decide_eq_true hc10
      have hk1 : k < a.length := by omega
      obtain ⟨ad, rfl, -, hca⟩ := ha.at_ hk1
      refine gskip ?_
      refine hN4 _ _ ?_
      refine gfrom [(0, .slice _ _ _), (1, .slice _ _ _), (5, .int _ _)] ⟨rfl, rfl, rfl, trivial⟩ fun σ => ?_
      refine gseq fun N6 hN6 => ?_
      refine gblock ?_
      refine gseq fun N7 hN7 => ?_
      refine greg ?_
      refine gop (y_assign (v := .int _ _) rfl) rfl rfl rfl ?_
      refine gops_nil ?_
      refine hN7 _ _ ?_
      refine gfrom [(0, .slice _ _ _), (1, .slice _ _ _), (5, .int _ _), (6, .int _ _)] ⟨rfl, rfl, rfl, rfl, trivial⟩ fun σ => ?_
      refine gblock ?_
      refine gfrom2 [(6, .int _ _)] [(0, .slice _ _ _), (1, .slice _ _ _), (5, .int _ _)] ⟨rfl, trivial⟩ ⟨rfl, rfl, rfl, trivial⟩ fun σ => ?_
      refine gloop2 (G := Nat) (fun j => j ≤ b.length ∧ ∀ i (h : i < b.length), i < j → a[k] ≠ b[i]) (fun j => b.length - j) (fun j => [(6, .int .i64 (j : Int))]) (fun j => []) (0) ?h0 ⟨rfl, trivial⟩ ⟨rfl, rfl, rfl, trivial⟩ rfl ?round
      case h0 => exact ⟨Nat.zero_le _, fun _ _ h => absurd h (by omega)⟩
      case round =>
        intro j hφ σ
        obtain ⟨hj, hz2⟩ := hφ
        refine gseq fun N8 hN8 => ?_
        refine gseq fun N9 hN9 => ?_
        refine greg ?_
        refine gop (y_move (v := .int _ _) rfl) rfl rfl rfl ?_
        refine gop (y_move (v := .slice _ _ _) rfl) rfl rfl rfl ?_
        refine gop (y_len Tryz.underlying74 rfl) rfl rfl rfl ?_
        refine gop (y_lss rfl rfl) rfl rfl rfl ?_
        refine gops_nil ?_
        refine hN9 _ _ ?_
        refine gfrom [(0, .slice _ _ _), (1, .slice _ _ _), (5, .int _ _), (6, .int _ _), (16, .bool _)] ⟨rfl, rfl, rfl, rfl, rfl, trivial⟩ fun σ => ?_
        refine gcond (b := _) rfl (fun hc16 => ?_) (fun hc16 => ?_)
        · 
          replace hc16 := of_decide_eq_true hc16
          have hj1 : j < b.length := by omega
          obtain ⟨ad', rfl, -, hcb⟩ := hb.at_ hj1
          refine gskip ?_
          refine hN8 _ _ ?_
          refine gfrom [(0, .slice _ _ _), (1, .slice _ _ _), (5, .int _ _), (6, .int _ _)] ⟨rfl, rfl, rfl, rfl, trivial⟩ fun σ => ?_
          refine gseq fun N10 hN10 => ?_
          refine gblock ?_
          refine gseq fun N11 hN11 => ?_
          refine greg_q (by kernel_rfl) (by kernel_rfl) ?_
          refine gq (y_move (v := .slice _ _ _) rfl) rfl rfl rfl ?_
          refine gq (y_move (v := .int _ _) rfl) rfl rfl rfl ?_
          refine gq (y_indexAddr (m := k) Tryz.underlying74 Tryz.sizeOf3 rfl rfl (by omega) (by omega) (by omega)) rfl rfl rfl ?_
          refine gq (y_load Tryz.isAgg3 rfl (cell_base (hca 0 _ rfl))) rfl rfl rfl ?_
          refine gq (y_move (v := .slice _ _ _) rfl) rfl rfl rfl ?_
          refine gq (y_move (v := .int _ _) rfl) rfl rfl rfl ?_
          refine gq (y_indexAddr (m := j) Tryz.underlying74 Tryz.sizeOf3 rfl rfl (by omega) (by omega) (by omega)) rfl rfl rfl ?_
          refine gq (y_load Tryz.isAgg3 rfl (cell_base (hcb 0 _ rfl))) rfl rfl rfl ?_
          refine gq (y_eql rfl rfl) rfl rfl rfl ?_
          refine gqs_nil ?_
          refine hN11 _ _ ?_
          refine gfrom [(0, .slice _ _ _), (1, .slice _ _ _), (5, .int _ _), (6, .int _ _), (27, .bool _)] ⟨rfl, rfl, rfl, rfl, rfl, trivial⟩ fun σ => ?_
          refine gcond (b := _) rfl (fun hc27 => ?_) (fun hc27 => ?_)
          · 
            replace hc27 := of_decide_eq_true hc27
            refine gseq fun N12 hN12 => ?_
            refine greg ?_
            refine gop (y_assign (v := .bool _) rfl) rfl rfl rfl ?_
            refine gops_nil ?_
            refine hN12 _ _ ?_
            refine gfrom [(4, .bool _)] ⟨rfl, trivial⟩ fun σ => ?_
            refine gret fun w1 hM => ?_
            refine ⟨_, res1 rfl (rt (v := .bool _) rfl), ?_⟩
            exact ⟨by rw [meetsB_yes hk1 (hasI_yes hj1 hc27)], hM.low⟩
          · 
            replace hc27 := of_decide_eq_false hc27
            refine gskip ?_
            refine hN10 _ _ ?_
            refine gfrom [(0, .slice _ _ _), (1, .slice _ _ _), (5, .int _ _), (6, .int _ _)] ⟨rfl, rfl, rfl, rfl, trivial⟩ fun σ => ?_
            refine greg ?_
            refine gop (y_move (v := .int _ _) rfl) rfl rfl rfl ?_
            refine gop (y_add rfl rfl ⟨by omega, by omega⟩) rfl rfl rfl ?_
            refine gop (y_assign (v := .int _ _) rfl) rfl rfl rfl ?_
            refine gops_nil ?_
            refine gnext2 (j + 1) (by omega) (⟨by omega, fun i h hi => by rcases Nat.lt_succ_iff_lt_or_eq.1 hi with h1 | rfl; exact hz2 i h h1; exact hc27⟩) ⟨rfl, trivial⟩ ⟨rfl, rfl, rfl, trivial⟩ ⟨_, rfl⟩
        · 
          replace hc16 := of_decide_eq_false hc16
          have hno : hasI b a[k] = false := hasI_no (fun i h => hz2 i h (by omega))
          refine gexit ?_
          refine hN6 _ _ ?_
          refine gfrom [(0, .slice _ _ _), (1, .slice _ _ _), (5, .int _ _)] ⟨rfl, rfl, rfl, trivial⟩ fun σ => ?_
          refine greg ?_
          refine gop (y_move (v := .int _ _) rfl) rfl rfl rfl ?_
          refine gop (y_add rfl rfl ⟨by omega, by omega⟩) rfl rfl rfl ?_
          refine gop (y_assign (v := .int _ _) rfl) rfl rfl rfl ?_
          refine gops_nil ?_
          refine gnext2 (k + 1) (by omega) (⟨by omega, fun j h hj => by rcases Nat.lt_succ_iff_lt_or_eq.1 hj with h1 | rfl; exact hz j h h1; exact hno⟩) ⟨rfl, trivial⟩ ⟨rfl, rfl, trivial⟩ ⟨_, rfl⟩
    · 
      replace hc10 := of_decide_eq_false hc10
      refine gexit ?_
      refine hN2 _ _ ?_
      refine gfrom [] trivial fun σ => ?_
      refine gseq fun N13 hN13 => ?_
      refine greg ?_
      refine gop (y_assign (v := .bool _) rfl) rfl rfl rfl ?_
      refine gops_nil ?_
      refine hN13 _ _ ?_
      refine gfrom [(4, .bool _)] ⟨rfl, trivial⟩ fun σ => ?_
      refine gret fun w1 hM => ?_
      refine ⟨_, res1 rfl (rt (v := .bool _) rfl), ?_⟩
      exact ⟨by rw [meetsB_no (fun j h => hz j h (by omega))], hM.low⟩
end Go.Proofs.YtbkameioedmlkaaGreatDoor
namespace Go.Proofs.YtbkameioedmlkaaGreatDoor
open Go.RowKit Go.Cf
set_option maxRecDepth 10000
theorem fd33_0 (x0 x1 : Value) (w : World) : (Instr.field 33 (.agg #[x0, x1]) 0).run Tryz.prog w = .ok x0 w := by kernel_rfl
set_option maxHeartbeats 1000000 in
theorem indexI_any (w : World) (A : Option Addr) (c : Nat) (l : List Int) (hl : Rdl w 0 1 intCells A l) (hn : l.length ≤ maxLen) (x : Int) : Calls Tryz.prog 78 #[.slice A l.length c, .int .i64 x] w fun e w' => e = .returned (.int .i64 (idxP (fun y => decide (x = y)) l)) ∧ Below w.heap.size w w' := by
  unfold maxLen at hn
  refine gcalls Tryz.func78 rfl Tryz.ntmps78 (Nat.le_of_ble_eq_true rfl) ?_
  refine gfrom [(0, .slice _ _ _), (1, .int _ _)] ⟨rfl, rfl, trivial⟩ fun σ => ?_
  refine gseq fun N1 hN1 => ?_
  refine greg ?_
  refine gop (y_assign (v := .int _ _) rfl) rfl rfl rfl ?_
  refine gops_nil ?_
  refine hN1 _ _ ?_
  refine gfrom [(0, .slice _ _ _), (1, .int _ _)] ⟨rfl, rfl, trivial⟩ fun σ => ?_
  refine gseq fun N2 hN2 => ?_
  refine gseq fun N3 hN3 => ?_
  refine greg ?_
  refine gop (y_move (v := .slice _ _ _) rfl) rfl rfl rfl ?_
  refine gop (y_len Tryz.underlying74 rfl) rfl rfl rfl ?_
  refine gop (y_move (v := .int _ _) rfl) rfl rfl rfl ?_
  refine gops_nil ?_
  refine hN3 _ _ ?_
  refine gfrom [(0, .slice _ _ _), (1, .int _ _), (7, .int _ _), (8, .int _ _)] ⟨rfl, rfl, rfl, rfl, trivial⟩ fun σ => ?_
  refine gblock ?_
  refine gfrom2 [(8, .int _ _)] [(0, .slice _ _ _), (1, .int _ _), (7, .int _ _)] ⟨rfl, trivial⟩ ⟨rfl, rfl, rfl, trivial⟩ fun σ => ?_
  refine gloop2 (G := Nat) (fun k => k ≤ l.length ∧ ∀ j (h : j < l.length), j < k → decide (x = l[j]) = false) (fun k => l.length - k) (fun k => [(8, .int .i64 (k : Int))]) (fun k => []) (0) ?h0 ⟨rfl, trivial⟩ ⟨rfl, rfl, rfl, trivial⟩ rfl ?round
  case h0 => exact ⟨Nat.zero_le _, fun _ _ h => absurd h (by omega)⟩
  case round =>
    intro k hφ σ
    obtain ⟨hk, hz⟩ := hφ
    refine gseq fun N4 hN4 => ?_
    refine greg ?_
    refine gop (y_lss rfl rfl) rfl rfl rfl ?_
    refine gops_nil ?_
    refine hN4 _ _ ?_
    refine gfrom [(0, .slice _ _ _), (1, .int _ _), (7, .int _ _), (8, .int _ _), (9, .bool _)] ⟨rfl, rfl, rfl, rfl, rfl, trivial⟩ fun σ => ?_
    refine gseq fun N5 hN5 => ?_
    refine gcond (b := _) rfl (fun hc9 => ?_) (fun hc9 => ?_)
    · 
      replace hc9 := of_decide_eq_true hc9
      have hk1 : k < l.length := by omega
      obtain ⟨ad, rfl, -, hca⟩ := hl.at_ hk1
      refine gskip ?_
      refine hN5 _ _ ?_
      refine gfrom [(0, .slice _ _ _), (1, .int _ _), (7, .int _ _), (8, .int _ _)] ⟨rfl, rfl, rfl, rfl, trivial⟩ fun σ => ?_
      refine gseq fun N6 hN6 => ?_
      refine gblock ?_
      refine gseq fun N7 hN7 => ?_
      refine greg ?_
      refine gop (y_move (v := .int _ _) rfl) rfl rfl rfl ?_
      refine gop (y_assign (v := .int _ _) rfl) rfl rfl rfl ?_
      refine gops_nil ?_
      refine hN7 _ _ ?_
      refine gfrom [(0, .slice _ _ _), (1, .int _ _), (5, .int _ _), (7, .int _ _), (8, .int _ _)] ⟨rfl, rfl, rfl, rfl, rfl, trivial⟩ fun σ => ?_
      refine gseq fun N8 hN8 => ?_
      refine greg ?_
      refine gop (y_move (v := .int _ _) rfl) rfl rfl rfl ?_
      refine gop (y_move (v := .slice _ _ _) rfl) rfl rfl rfl ?_
      refine gop (y_move (v := .int _ _) rfl) rfl rfl rfl ?_
      refine gop (y_indexAddr (m := k) Tryz.underlying74 Tryz.sizeOf3 rfl rfl (by omega) (by omega) (by omega)) rfl rfl rfl ?_
      refine gop (y_load Tryz.isAgg3 rfl (cell_base (hca 0 _ rfl))) rfl rfl rfl ?_
      refine gop (y_eql rfl rfl) rfl rfl rfl ?_
      refine gops_nil ?_
      refine hN8 _ _ ?_
      refine gfrom [(0, .slice _ _ _), (1, .int _ _), (5, .int _ _), (7, .int _ _), (8, .int _ _), (16, .bool _)] ⟨rfl, rfl, rfl, rfl, rfl, rfl, trivial⟩ fun σ => ?_
      refine gcond (b := _) rfl (fun hc16 => ?_) (fun hc16 => ?_)
      · 
        replace hc16 := of_decide_eq_true hc16
        refine gseq fun N9 hN9 => ?_
        refine greg ?_
        refine gop (y_move (v := .int _ _) rfl) rfl rfl rfl ?_
        refine gop (y_assign (v := .int _ _) rfl) rfl rfl rfl ?_
        refine gops_nil ?_
        refine hN9 _ _ ?_
        refine gfrom [(4, .int _ _)] ⟨rfl, trivial⟩ fun σ => ?_
        refine gret fun w1 hM => ?_
        refine ⟨_, res1 rfl (rt (v := .int _ _) rfl), ?_⟩
        exact ⟨by rw [idxP_hit (p := fun y => decide (x = y)) hk1 hz (decide_eq_true hc16)], hM.low⟩
      · 
        replace hc16 := of_decide_eq_false hc16
        refine gskip ?_
        refine hN6 _ _ ?_
        refine gfrom [(0, .slice _ _ _), (1, .int _ _), (7, .int _ _), (8, .int _ _)] ⟨rfl, rfl, rfl, rfl, trivial⟩ fun σ => ?_
        refine greg ?_
        refine gop (y_add rfl rfl ⟨by omega, by omega⟩) rfl rfl rfl ?_
        refine gop (y_move (v := .int _ _) rfl) rfl rfl rfl ?_
        refine gops_nil ?_
        refine gnext2 (k + 1) (by omega) (⟨by omega, fun j h hj => by rcases Nat.lt_succ_iff_lt_or_eq.1 hj with h1 | rfl; exact hz j h h1; exact decide_eq_false hc16⟩) ⟨rfl, trivial⟩ ⟨rfl, rfl, rfl, trivial⟩ ⟨_, rfl⟩
    · 
      replace hc9 := of_decide_eq_false hc9
      have hI := idxP_none (p := fun y => decide (x = y)) (l := l) (fun j hj => hz j hj (by omega))
      refine gexit ?_
      refine hN2 _ _ ?_
      refine gfrom [] trivial fun σ => ?_
      refine gseq fun N10 hN10 => ?_
      refine greg ?_
      refine gop (y_assign (v := .int _ _) rfl) rfl rfl rfl ?_
      refine gops_nil ?_
      refine hN10 _ _ ?_
      refine gfrom [(4, .int _ _)] ⟨rfl, trivial⟩ fun σ => ?_
      refine gret fun w1 hM => ?_
      refine ⟨_, res1 rfl (rt (v := .int _ _) rfl), ?_⟩
      exact ⟨by rw [hI], hM.low⟩
set_option maxHeartbeats 1000000 in
theorem containsI_any (w : World) (A : Option Addr) (c : Nat) (l : List Int) (hl : Rdl w 0 1 intCells A l) (hn : l.length ≤ maxLen) (x : Int) : Calls Tryz.prog 41 #[.slice A l.length c, .int .i64 x] w fun e w' => e = .returned (.bool (hasI l x)) ∧ Below w.heap.size w w' := by
  refine gcalls Tryz.func41 rfl Tryz.ntmps41 (Nat.le_of_ble_eq_true rfl) ?_
  refine gfrom [(0, .slice _ _ _), (1, .int _ _)] ⟨rfl, rfl, trivial⟩ fun σ => ?_
  refine gseq fun N1 hN1 => ?_
  refine greg ?_
  refine gop (y_assign (v := .bool _) rfl) rfl rfl rfl ?_
  refine gops_nil ?_
  refine hN1 _ _ ?_
  refine gfrom [(0, .slice _ _ _), (1, .int _ _)] ⟨rfl, rfl, trivial⟩ fun σ => ?_
  refine gseq fun N2 hN2 => ?_
  refine greg ?_
  refine gop (y_move (v := .slice _ _ _) rfl) rfl rfl rfl ?_
  refine gop (y_move (v := .int _ _) rfl) rfl rfl rfl ?_
  refine gop_pure (e_call (vs := [.slice _ _ _, .int _ _]) Tryz.func78 rfl (by kernel_rfl) rfl) (fun w hM => indexI_any w A c l (hl.base hM) hn x) rfl rfl rfl ?_
  refine gop (y_geq rfl rfl) rfl rfl rfl ?_
  refine gop (y_assign (v := .bool _) rfl) rfl rfl rfl ?_
  refine gops_nil ?_
  refine hN2 _ _ ?_
  refine gfrom [(4, .bool _)] ⟨rfl, trivial⟩ fun σ => ?_
  refine gret fun w1 hM => ?_
  refine ⟨_, res1 rfl (rt (v := .bool _) rfl), ?_⟩
  exact ⟨by rw [idxP_any]; rfl, hM.low⟩
set_option maxHeartbeats 16000000 in
theorem missing_any (w : World) (RA : Option Addr) (rcp : Nat) (rs : List RuleC) (hRS : RulesR w 0 RA rcp rs) (LA : Option Addr) (lc : Nat) (l : List Appr) (hl : Rdl w 0 3 apprCells LA l) (hll : l.length ≤ lc) (hlm : lc ≤ maxLen) (A : Option Addr) (c : Nat) (fs : List FileC) (hR : TreeR w 0 A c fs) (B : Option Addr) (d : Nat) (gs : List FileC) (hS : TreeR w 0 B d gs) :
    Calls Tryz.prog 13 #[.slice RA rs.length rcp, .slice LA l.length lc, .agg #[.slice A fs.length c], .agg #[.slice B gs.length d]] w fun e w' => ∃ v T', e = .returned (.tuple #[v, fv (missF (rls rs) l (fpl fs) (fpl gs))]) ∧ T' = [rowl strCells w.heap.size 9 1 (v) (missV (rls rs) l (fpl fs) (fpl gs))] ∧ Mem w T' w' := by
  have hsl := hR.sb.len
  have hsm := hR.sb.max
  have hmx : maxLen = 9223372036854775807 := rfl
  refine gcalls Tryz.func13 rfl Tryz.ntmps13 (Nat.le_of_ble_eq_true rfl) ?_
  refine gfrom [(0, .slice _ _ _), (1, .slice _ _ _), (2, .agg #[_]), (3, .agg #[_])] ⟨rfl, rfl, rfl, rfl, trivial⟩ fun σ => ?_
  refine gseq fun N1 hN1 => ?_
  refine greg ?_
  refine gop_box (v := .agg #[_]) (cs := #[_]) rfl rfl rfl (fun b6 hb6 => ?_)
  refine gop_box (v := .agg #[_]) (cs := #[_]) rfl rfl rfl (fun b7 hb7 => ?_)
  refine gop (y_assign (v := .slice _ _ _) rfl) rfl rfl rfl ?_
  refine gop_alloc (cs := #[.int .i64 0, .int .i64 0]) Tryz.zeroValue33 rfl rfl (fun b9 hb9 => ?_)
  refine gops_nil ?_
  refine hN1 _ _ ?_
  refine gT [box b6 _, box b7 _, box b9 _] rfl ?_
  refine gfrom [(0, .slice _ _ _), (1, .slice _ _ _), (6, .pointer _), (7, .pointer _), (9, .pointer _)] ⟨rfl, rfl, rfl, rfl, rfl, trivial⟩ fun σ => ?_
  refine gseq fun N2 hN2 => ?_
  refine greg ?_
  refine gop (y_move (v := .slice _ _ _) rfl) rfl rfl rfl ?_
  refine gop (y_loads (cs := [_]) Tryz.isAgg61 Tryz.sizeOf61 rfl rfl (cells_box 1 rfl)) rfl rfl rfl ?_
  refine gop_got (fun v T' => ∃ lo u, v = .tuple #[u, fv (validF l (fpl gs))] ∧ w.heap.size ≤ lo ∧ T' = [rowl boolCells lo 4 1 (u) (validV l (fpl gs))]) (e_call (vs := [.slice _ _ _, .agg #[_]]) Tryz.func12 rfl (by kernel_rfl) rfl) (fun w hM => by have hc := valid_any w LA lc l (hl.base hM) hll hlm B d gs (hS.base hM); exact hc.mono fun _ _ ⟨v, T1, h1, h2, h3⟩ => ⟨_, T1, h1, ⟨_, v, rfl, hM.low.size, h2⟩, h3⟩) rfl rfl rfl ?_
  rintro _ _ ⟨lo24, u24, rfl, hlo24, rfl⟩
  refine gops_fact (fun w hM => row_form (hM.ok _ (List.mem_of_getElem? (i := 3) rfl))) ?_
  rintro ⟨A24, c24, rfl, hc24, hm24, hn24⟩
  refine gops_fact (Φ := 0 < (validV l (fpl gs)).length → ∃ g, A24 = some ⟨g, 0, none⟩) (fun w hM h9 => row_g2 (hM.ok _ (List.mem_of_getElem? (i := 3) rfl)) h9) ?_
  intro hg24
  refine gop (y_move (v := .tuple #[.slice A24 _ c24, .agg #[_, _]]) rfl) rfl rfl rfl ?_
  refine gop (y_extract (v := .slice _ _ _) rfl rfl) rfl rfl rfl ?_
  refine gop (y_extract (v := .agg #[_, _]) rfl rfl) rfl rfl rfl ?_
  refine gop_alloc (cs := #[.int .i64 0, .int .i64 0]) Tryz.zeroValue33 rfl rfl (fun b11 hb11 => ?_)
  refine gop (y_assign (v := .slice _ _ _) rfl) rfl rfl rfl ?_
  refine gop_store 4 (v := .agg #[_, _]) (cs' := #[_, _]) rfl rfl Tryz.sizeOf33 rfl rfl rfl rfl (Nat.le_of_ble_eq_true rfl) rfl rfl ?_
  refine gops_nil ?_
  refine hN2 _ _ ?_
  refine gT [box b6 _, box b7 _, box b9 _, rowl _ _ _ _ _ _, box b11 _] rfl ?_
  refine gfrom [(0, .slice _ _ _), (1, .slice _ _ _), (6, .pointer _), (7, .pointer _), (9, .pointer _), (10, .slice _ _ _), (11, .pointer _)] ⟨rfl, rfl, rfl, rfl, rfl, rfl, rfl, trivial⟩ fun σ => ?_
  refine gseq fun N3 hN3 => ?_
  refine gseq fun N4 hN4 => ?_
  refine greg ?_
  refine gop (y_loads (cs := [_, _]) Tryz.isAgg33 Tryz.sizeOf33 rfl rfl (cells_box 4 rfl)) rfl rfl rfl ?_
  refine gop (y_build (vs := []) (cells := #[.int .i64 0, .int .i64 0]) rfl bd33_) rfl rfl rfl ?_
  refine gop (y_bin (vx := .agg #[_, _]) (vy := .agg #[_, _]) rfl rfl (fun w => eg33 _ _ _ _ _ w) (fun w => ne33 _ _ _ _ w)) rfl rfl rfl ?_
  refine gops_nil ?_
  refine hN4 _ _ ?_
  refine gfrom [(0, .slice _ _ _), (1, .slice _ _ _), (6, .pointer _), (7, .pointer _), (9, .pointer _), (10, .slice _ _ _), (11, .pointer _), (29, .bool _)] ⟨rfl, rfl, rfl, rfl, rfl, rfl, rfl, rfl, trivial⟩ fun σ => ?_
  refine gcond (b := _) rfl (fun hc29 => ?_) (fun hc29 => ?_)
  · 
    replace hc29 := fault_ne.1 hc29
    have hF : missF (rls rs) l (fpl fs) (fpl gs) = validF l (fpl gs) := missF_1 rfl hc29
    refine gseq fun N5 hN5 => ?_
    refine greg_e1 [] [(2, room b9 33 2)] (by kernel_rfl) ?_
    refine ge_take 0 (TK := [box b6 _, box b7 _, room b9 33 2, rowl _ _ _ _ _ _, box b11 _]) rfl (by kernel_rfl) (by kernel_rfl) (by kernel_rfl) #[false, true, false] (by kernel_rfl) rfl (y_loads (cs := [_, _]) Tryz.isAgg33 Tryz.sizeOf33 rfl rfl (cells_box 4 rfl)) rfl rfl rfl (weak_room 2 rfl rfl) (listed' := #[true, false, false]) rfl ?_
    refine ge_take 1 (TK := [box b6 _, box b7 _, room b9 33 2, rowl _ _ _ _ _ _, box b11 _]) rfl (by kernel_rfl) (by kernel_rfl) (by kernel_rfl) #[true, false, false] (by kernel_rfl) rfl (y_assign (v := .slice _ _ _) rfl) rfl rfl rfl (weak_room 2 rfl rfl) (listed' := #[true, true, false]) rfl ?_
    refine ge_one 2 (k' := 0) (listed' := #[true, true, true]) (by kernel_rfl) rfl rfl rfl ?_
    refine gop_store 2 (v := .agg #[_, _]) (cs' := #[_, _]) rfl rfl Tryz.sizeOf33 rfl rfl rfl rfl (Nat.le_of_ble_eq_true rfl) rfl rfl ?_
    refine gops_nil ?_
    refine ge_fin (TK := [box b6 _, box b7 _, room b9 33 2, rowl _ _ _ _ _ _, box b11 _]) rfl (weak_room 2 rfl rfl) ?_
    refine ge_done (by kernel_rfl) ?_
    refine hN5 _ _ ?_
    refine gT [box b6 _, box b7 _, box b9 _, rowl _ _ _ _ _ _, box b11 _] rfl ?_
    refine gfrom [(8, .slice _ _ _), (9, .pointer _)] ⟨rfl, rfl, trivial⟩ fun σ => ?_
    refine gret fun w1 hM => ?_
    refine ⟨_, res2 rfl (rt (v := .slice _ _ _) rfl) (rc 2 (cs := [_, _]) hM rfl rfl Tryz.isAgg33 Tryz.sizeOf33 rfl), ?_⟩
    exact ⟨_, _, by rw [hF], by rw [missV, if_neg (by rw [hF]; exact hc29)]; rfl, (mem_nilrow strCells 9 1 hM).dropTo 5 rfl⟩
  · 
    replace hc29 := fault_eq.1 hc29
    have hvz := hc29
    obtain ⟨-, haz, htz⟩ := validF_code (by rw [hvz])
    have hvl := validV_len hvz
    have h40 := apprF_len haz
    have v2 := treeF_valid htz
    refine gskip ?_
    refine hN3 _ _ ?_
    refine gfrom [(0, .slice _ _ _), (1, .slice _ _ _), (6, .pointer _), (7, .pointer _), (9, .pointer _), (10, .slice _ _ _)] ⟨rfl, rfl, rfl, rfl, rfl, rfl, trivial⟩ fun σ => ?_
    refine gseq fun N6 hN6 => ?_
    refine gseq fun N7 hN7 => ?_
    refine greg ?_
    refine gop (y_loads (cs := [_]) Tryz.isAgg61 Tryz.sizeOf61 rfl rfl (cells_box 0 rfl)) rfl rfl rfl ?_
    refine gop_pure (e_call (vs := [.agg #[_], _]) Tryz.func36 rfl (by kernel_rfl) rfl) (fun w hM => treeSecond_any w A c fs (hR.base hM) (-3)) rfl rfl rfl ?_
    refine gop_alloc (cs := #[.int .i64 0, .int .i64 0]) Tryz.zeroValue33 rfl rfl (fun b12 hb12 => ?_)
    refine gop_store 5 (v := .agg #[_, _]) (cs' := #[_, _]) rfl rfl Tryz.sizeOf33 rfl rfl rfl rfl (Nat.le_of_ble_eq_true rfl) rfl rfl ?_
    refine gops_nil ?_
    refine hN7 _ _ ?_
    refine gT [box b6 _, box b7 _, box b9 _, rowl _ _ _ _ _ _, box b11 _, box b12 _] rfl ?_
    refine gfrom [(0, .slice _ _ _), (1, .slice _ _ _), (6, .pointer _), (7, .pointer _), (9, .pointer _), (10, .slice _ _ _), (12, .pointer _)] ⟨rfl, rfl, rfl, rfl, rfl, rfl, rfl, trivial⟩ fun σ => ?_
    refine gseq fun N8 hN8 => ?_
    refine greg ?_
    refine gop (y_loads (cs := [_, _]) Tryz.isAgg33 Tryz.sizeOf33 rfl rfl (cells_box 5 rfl)) rfl rfl rfl ?_
    refine gop (y_build (vs := []) (cells := #[.int .i64 0, .int .i64 0]) rfl bd33_) rfl rfl rfl ?_
    refine gop (y_bin (vx := .agg #[_, _]) (vy := .agg #[_, _]) rfl rfl (fun w => eg33 _ _ _ _ _ w) (fun w => ne33 _ _ _ _ w)) rfl rfl rfl ?_
    refine gops_nil ?_
    refine hN8 _ _ ?_
    refine gfrom [(0, .slice _ _ _), (1, .slice _ _ _), (6, .pointer _), (7, .pointer _), (9, .pointer _), (10, .slice _ _ _), (12, .pointer _), (35, .bool _)] ⟨rfl, rfl, rfl, rfl, rfl, rfl, rfl, rfl, trivial⟩ fun σ => ?_
    refine gcond (b := _) rfl (fun hc35 => ?_) (fun hc35 => ?_)
    · 
      replace hc35 := fault_ne.1 hc35
      have hF : missF (rls rs) l (fpl fs) (fpl gs) = secondF (treeF (fpl fs)) (-3) := missF_2 hvz hc35
      refine gseq fun N9 hN9 => ?_
      refine greg_e1 [] [(2, room b9 33 2)] (by kernel_rfl) ?_
      refine ge_take 0 (TK := [box b6 _, box b7 _, room b9 33 2, rowl _ _ _ _ _ _, box b11 _, box b12 _]) rfl (by kernel_rfl) (by kernel_rfl) (by kernel_rfl) #[false, true, false] (by kernel_rfl) rfl (y_loads (cs := [_, _]) Tryz.isAgg33 Tryz.sizeOf33 rfl rfl (cells_box 5 rfl)) rfl rfl rfl (weak_room 2 rfl rfl) (listed' := #[true, false, false]) rfl ?_
      refine ge_take 1 (TK := [box b6 _, box b7 _, room b9 33 2, rowl _ _ _ _ _ _, box b11 _, box b12 _]) rfl (by kernel_rfl) (by kernel_rfl) (by kernel_rfl) #[true, false, false] (by kernel_rfl) rfl (y_assign (v := .slice _ _ _) rfl) rfl rfl rfl (weak_room 2 rfl rfl) (listed' := #[true, true, false]) rfl ?_
      refine ge_one 2 (k' := 0) (listed' := #[true, true, true]) (by kernel_rfl) rfl rfl rfl ?_
      refine gop_store 2 (v := .agg #[_, _]) (cs' := #[_, _]) rfl rfl Tryz.sizeOf33 rfl rfl rfl rfl (Nat.le_of_ble_eq_true rfl) rfl rfl ?_
      refine gops_nil ?_
      refine ge_fin (TK := [box b6 _, box b7 _, room b9 33 2, rowl _ _ _ _ _ _, box b11 _, box b12 _]) rfl (weak_room 2 rfl rfl) ?_
      refine ge_done (by kernel_rfl) ?_
      refine hN9 _ _ ?_
      refine gT [box b6 _, box b7 _, box b9 _, rowl _ _ _ _ _ _, box b11 _, box b12 _] rfl ?_
      refine gfrom [(8, .slice _ _ _), (9, .pointer _)] ⟨rfl, rfl, trivial⟩ fun σ => ?_
      refine gret fun w1 hM => ?_
      refine ⟨_, res2 rfl (rt (v := .slice _ _ _) rfl) (rc 2 (cs := [_, _]) hM rfl rfl Tryz.isAgg33 Tryz.sizeOf33 rfl), ?_⟩
      exact ⟨_, _, by rw [hF], by rw [missV, if_neg (by rw [hF]; exact hc35)]; rfl, (mem_nilrow strCells 9 1 hM).dropTo 6 rfl⟩
    · 
      replace hc35 := fault_eq.1 hc35
      have hbz : treeF (fpl fs) = ⟨0, 0⟩ := sec_ok hc35 (by decide)
      have v1 := treeF_valid hbz
      have hFS : missF (rls rs) l (fpl fs) (fpl gs) = secondF (rulesF (rls rs)) (-4) := missF_3 hvz hbz
      refine gskip ?_
      refine hN6 _ _ ?_
      refine gfrom [(0, .slice _ _ _), (1, .slice _ _ _), (6, .pointer _), (7, .pointer _), (9, .pointer _), (10, .slice _ _ _)] ⟨rfl, rfl, rfl, rfl, rfl, rfl, trivial⟩ fun σ => ?_
      refine gseq fun N10 hN10 => ?_
      refine gseq fun N11 hN11 => ?_
      refine greg ?_
      refine gop (y_move (v := .slice _ _ _) rfl) rfl rfl rfl ?_
      refine gop_pure (e_call (vs := [.slice _ _ _]) Tryz.func38 rfl (by kernel_rfl) rfl) (fun w hM => ownValidate_any w RA rcp rs (RulesR.lasts.base hRS hM)) rfl rfl rfl ?_
      refine gop_alloc (cs := #[.int .i64 0, .int .i64 0]) Tryz.zeroValue33 rfl rfl (fun b13 hb13 => ?_)
      refine gop_store 6 (v := .agg #[_, _]) (cs' := #[_, _]) rfl rfl Tryz.sizeOf33 rfl rfl rfl rfl (Nat.le_of_ble_eq_true rfl) rfl rfl ?_
      refine gops_nil ?_
      refine hN11 _ _ ?_
      refine gT [box b6 _, box b7 _, box b9 _, rowl _ _ _ _ _ _, box b11 _, box b12 _, box b13 _] rfl ?_
      refine gfrom [(0, .slice _ _ _), (1, .slice _ _ _), (6, .pointer _), (7, .pointer _), (9, .pointer _), (10, .slice _ _ _), (13, .pointer _)] ⟨rfl, rfl, rfl, rfl, rfl, rfl, rfl, trivial⟩ fun σ => ?_
      refine gseq fun N12 hN12 => ?_
      refine greg ?_
      refine gop (y_loads (cs := [_, _]) Tryz.isAgg33 Tryz.sizeOf33 rfl rfl (cells_box 6 rfl)) rfl rfl rfl ?_
      refine gop (y_build (vs := []) (cells := #[.int .i64 0, .int .i64 0]) rfl bd33_) rfl rfl rfl ?_
      refine gop (y_bin (vx := .agg #[_, _]) (vy := .agg #[_, _]) rfl rfl (fun w => eg33 _ _ _ _ _ w) (fun w => ne33 _ _ _ _ w)) rfl rfl rfl ?_
      refine gops_nil ?_
      refine hN12 _ _ ?_
      refine gfrom [(0, .slice _ _ _), (1, .slice _ _ _), (6, .pointer _), (7, .pointer _), (9, .pointer _), (10, .slice _ _ _), (13, .pointer _), (41, .bool _)] ⟨rfl, rfl, rfl, rfl, rfl, rfl, rfl, rfl, trivial⟩ fun σ => ?_
      refine gcond (b := _) rfl (fun hc41 => ?_) (fun hc41 => ?_)
      · 
        replace hc41 := fault_ne.1 hc41
        have hF : missF (rls rs) l (fpl fs) (fpl gs) = ⟨(rulesF (rls rs)).code, -4⟩ := by rw [hFS, secondF, if_pos hc41]
        have hFn : missF (rls rs) l (fpl fs) (fpl gs) ≠ ⟨0, 0⟩ := by rw [hF]; exact fun h9 => absurd (congrArg Fault.index h9) (show ¬ ((-4 : Int) = 0) by decide)
        refine gseq fun N13 hN13 => ?_
        refine greg_e1 [] [(2, room b9 33 2)] (by kernel_rfl) ?_
        refine ge_take 0 (TK := [box b6 _, box b7 _, room b9 33 2, rowl _ _ _ _ _ _, box b11 _, box b12 _, box b13 _]) rfl (by kernel_rfl) (by kernel_rfl) (by kernel_rfl) #[false, false, false, true, false] (by kernel_rfl) rfl (y_fieldAddr_box fa33_0 rfl) rfl rfl rfl (weak_room 2 rfl rfl) (listed' := #[true, false, false, false, false]) rfl ?_
        refine ge_take 1 (TK := [box b6 _, box b7 _, room b9 33 2, rowl _ _ _ _ _ _, box b11 _, box b12 _, box b13 _]) rfl (by kernel_rfl) (by kernel_rfl) (by kernel_rfl) #[true, false, false, true, false] (by kernel_rfl) rfl (y_load Tryz.isAgg3 rfl (cell_box 6 rfl rfl)) rfl rfl rfl (weak_room 2 rfl rfl) (listed' := #[true, true, false, false, false]) rfl ?_
        refine ge_take 2 (TK := [box b6 _, box b7 _, room b9 33 2, rowl _ _ _ _ _ _, box b11 _, box b12 _, box b13 _]) rfl (by kernel_rfl) (by kernel_rfl) (by kernel_rfl) #[true, true, false, true, false] (by kernel_rfl) rfl (y_build (vs := [(0, .int _ _), (1, _)]) (cells := #[_, _]) rfl (bd33_0_1 _ _)) rfl rfl rfl (weak_room 2 rfl rfl) (listed' := #[true, true, true, false, false]) rfl ?_
        refine ge_take 3 (TK := [box b6 _, box b7 _, room b9 33 2, rowl _ _ _ _ _ _, box b11 _, box b12 _, box b13 _]) rfl (by kernel_rfl) (by kernel_rfl) (by kernel_rfl) #[true, true, true, false, false] (by kernel_rfl) rfl (y_assign (v := .slice _ _ _) rfl) rfl rfl rfl (weak_room 2 rfl rfl) (listed' := #[true, true, true, true, false]) rfl ?_
        refine ge_one 4 (k' := 0) (listed' := #[true, true, true, true, true]) (by kernel_rfl) rfl rfl rfl ?_
        refine gop_store 2 (v := .agg #[_, _]) (cs' := #[_, _]) rfl rfl Tryz.sizeOf33 rfl rfl rfl rfl (Nat.le_of_ble_eq_true rfl) rfl rfl ?_
        refine gops_nil ?_
        refine ge_fin (TK := [box b6 _, box b7 _, room b9 33 2, rowl _ _ _ _ _ _, box b11 _, box b12 _, box b13 _]) rfl (weak_room 2 rfl rfl) ?_
        refine ge_done (by kernel_rfl) ?_
        refine hN13 _ _ ?_
        refine gT [box b6 _, box b7 _, box b9 _, rowl _ _ _ _ _ _, box b11 _, box b12 _, box b13 _] rfl ?_
        refine gfrom [(8, .slice _ _ _), (9, .pointer _)] ⟨rfl, rfl, trivial⟩ fun σ => ?_
        refine gret fun w1 hM => ?_
        refine ⟨_, res2 rfl (rt (v := .slice _ _ _) rfl) (rc 2 (cs := [_, _]) hM rfl rfl Tryz.isAgg33 Tryz.sizeOf33 rfl), ?_⟩
        exact ⟨_, _, by rw [hF], by rw [missV, if_neg hFn]; rfl, (mem_nilrow strCells 9 1 hM).dropTo 7 rfl⟩
      · 
        replace hc41 := fault_eq.1 hc41
        have hrz := hc41
        have hF : missF (rls rs) l (fpl fs) (fpl gs) = ⟨0, 0⟩ := by rw [hFS, hrz]; rfl
        have hcn : (chgL (fpl fs) (fpl gs)).length ≤ 48 := by have h8 := chg_len (a := fpl fs) (b := fpl gs); have h7 := v1.len; have h6 := v2.len; omega
        refine gskip ?_
        refine hN10 _ _ ?_
        refine gfrom [(0, .slice _ _ _), (1, .slice _ _ _), (6, .pointer _), (7, .pointer _), (9, .pointer _), (10, .slice _ _ _)] ⟨rfl, rfl, rfl, rfl, rfl, rfl, trivial⟩ fun σ => ?_
        refine gseq fun N14 hN14 => ?_
        refine greg ?_
        refine gop (y_assign (v := .slice _ _ _) rfl) rfl rfl rfl ?_
        refine gops_nil ?_
        refine hN14 _ _ ?_
        refine gfrom [(0, .slice _ _ _), (1, .slice _ _ _), (6, .pointer _), (7, .pointer _), (9, .pointer _), (10, .slice _ _ _), (14, .slice _ _ _)] ⟨rfl, rfl, rfl, rfl, rfl, rfl, rfl, trivial⟩ fun σ => ?_
        refine gseq fun N15 hN15 => ?_
        refine gseq fun N16 hN16 => ?_
        refine greg ?_
        refine gop (y_loads (cs := [_]) Tryz.isAgg61 Tryz.sizeOf61 rfl rfl (cells_box 0 rfl)) rfl rfl rfl ?_
        refine gop (y_loads (cs := [_]) Tryz.isAgg61 Tryz.sizeOf61 rfl rfl (cells_box 1 rfl)) rfl rfl rfl ?_
        refine gop_got (fun v T' => ∃ lo, w.heap.size ≤ lo ∧ T' = [rowl strCells lo 9 1 (v) (chgL (fpl fs) (fpl gs))]) (e_call (vs := [.agg #[_], .agg #[_]]) Tryz.func39 rfl (by kernel_rfl) rfl) (fun w hM => by have hc := changed_any w A c fs (hR.base hM) v1 B d gs (hS.base hM) v2; exact hc.mono fun _ _ ⟨v, T1, h1, h2, h3⟩ => ⟨v, T1, h1, ⟨_, hM.low.size, h2⟩, h3⟩) rfl rfl rfl ?_
        rintro v47 _ ⟨lo47, hlo47, rfl⟩
        refine gops_fact (fun w hM => row_form (hM.ok _ (List.mem_of_getElem? (i := 7) rfl))) ?_
        rintro ⟨A47, c47, rfl, hc47, hm47, hn47⟩
        refine gops_fact (Φ := 0 < (chgL (fpl fs) (fpl gs)).length → ∃ g, A47 = some ⟨g, 0, none⟩) (fun w hM h9 => row_g2 (hM.ok _ (List.mem_of_getElem? (i := 7) rfl)) h9) ?_
        intro hg47
        refine gop (y_len Tryz.underlying22 rfl) rfl rfl rfl ?_
        refine gop (y_move (v := .int _ _) rfl) rfl rfl rfl ?_
        refine gops_nil ?_
        refine hN16 _ _ ?_
        refine gT [box b6 _, box b7 _, box b9 _, rowl _ _ _ _ _ _, box b11 _, box b12 _, box b13 _, rowl _ _ _ _ _ _] rfl ?_
        refine gfrom [(0, .slice _ _ _), (1, .slice _ _ _), (9, .pointer _), (10, .slice _ _ _), (14, .slice _ _ _), (47, .slice A47 _ c47), (48, .int _ _), (49, .int _ _)] ⟨rfl, rfl, rfl, rfl, rfl, rfl, rfl, rfl, trivial⟩ fun σ => ?_
        refine gblock ?_
        refine gnilrow strCells 9 1 ?_
        refine gfrom2 [(14, .slice _ _ _), (49, .int _ _)] [(0, .slice _ _ _), (1, .slice _ _ _), (9, .pointer _), (10, .slice _ _ _), (47, .slice A47 _ c47), (48, .int _ _)] ⟨rfl, rfl, trivial⟩ ⟨rfl, rfl, rfl, rfl, rfl, rfl, trivial⟩ fun σ => ?_
        refine gloop2 (G := Nat × Option Addr × Nat) (fun (k, Ov, ov) => k ≤ (chgL (fpl fs) (fpl gs)).length) (fun (k, Ov, ov) => (chgL (fpl fs) (fpl gs)).length - k) (fun (k, Ov, ov) => [(14, .slice Ov (missTo (rls rs) l (fpl fs) (fpl gs) k).length ov), (49, .int .i64 (k : Int))]) (fun (k, Ov, ov) => [(8, rowl strCells w.heap.size 9 1 (.slice Ov (missTo (rls rs) l (fpl fs) (fpl gs) k).length ov) (missTo (rls rs) l (fpl fs) (fpl gs) k))]) ((0, none, 0)) ?h0 ⟨rfl, rfl, trivial⟩ ⟨rfl, rfl, rfl, rfl, rfl, rfl, trivial⟩ rfl ?round
        case h0 => exact Nat.zero_le _
        case round =>
          rintro ⟨k, Ov, ov⟩ hφ σ
          have hk : k ≤ (chgL (fpl fs) (fpl gs)).length := hφ
          have hml := missTo_len (rls rs) l (fpl fs) (fpl gs) k
          refine gT [box b6 _, box b7 _, box b9 _, rowl _ _ _ _ _ _, box b11 _, box b12 _, box b13 _, rowl _ _ _ _ _ _, rowl _ _ _ _ _ _] rfl ?_
          refine gseq fun N17 hN17 => ?_
          refine greg ?_
          refine gop (y_lss rfl rfl) rfl rfl rfl ?_
          refine gops_nil ?_
          refine hN17 _ _ ?_
          refine gfrom [(0, .slice _ _ _), (1, .slice _ _ _), (9, .pointer _), (10, .slice _ _ _), (14, .slice Ov _ ov), (47, .slice A47 _ c47), (48, .int _ _), (49, .int _ _), (50, .bool _)] ⟨rfl, rfl, rfl, rfl, rfl, rfl, rfl, rfl, rfl, trivial⟩ fun σ => ?_
          refine gseq fun N18 hN18 => ?_
          refine gcond (b := _) rfl (fun hc50 => ?_) (fun hc50 => ?_)
          · 
            replace hc50 := of_decide_eq_true hc50
            have hk1 : k < (chgL (fpl fs) (fpl gs)).length := by omega
            obtain ⟨g47, rfl⟩ := hg47 (by omega)
            have hpk : pathOk (chgL (fpl fs) (fpl gs))[k] = true := chg_ok hbz htz (List.getElem_mem hk1)
            refine gskip ?_
            refine hN18 _ _ ?_
            refine gfrom [(0, .slice _ _ _), (1, .slice _ _ _), (9, .pointer _), (10, .slice _ _ _), (14, .slice Ov _ ov), (47, .slice (some ⟨g47, 0, none⟩) _ c47), (48, .int _ _), (49, .int _ _)] ⟨rfl, rfl, rfl, rfl, rfl, rfl, rfl, rfl, trivial⟩ fun σ => ?_
            refine gseq fun N19 hN19 => ?_
            refine gblock ?_
            refine gseq fun N20 hN20 => ?_
            refine greg ?_
            refine gop (y_indexAddr (m := k) Tryz.underlying22 Tryz.sizeOf9 rfl rfl (by omega) (by omega) (by omega)) rfl rfl rfl ?_
            refine gop (y_load Tryz.isAgg9 rfl (cells_rowl 7 (f := strCells) (l := chgL (fpl fs) (fpl gs)) rfl rfl (fun _ => rfl) (List.getElem?_eq_getElem hk1) 0 _ rfl)) rfl rfl rfl ?_
            refine gop (y_assign (v := .string _) rfl) rfl rfl rfl ?_
            refine gops_nil ?_
            refine hN20 _ _ ?_
            refine gfrom [(0, .slice _ _ _), (1, .slice _ _ _), (9, .pointer _), (10, .slice _ _ _), (14, .slice Ov _ ov), (16, .string _), (47, .slice (some ⟨g47, 0, none⟩) _ c47), (48, .int _ _), (49, .int _ _)] ⟨rfl, rfl, rfl, rfl, rfl, rfl, rfl, rfl, rfl, trivial⟩ fun σ => ?_
            refine gseq fun N21 hN21 => ?_
            refine greg ?_
            refine gop (y_move (v := .slice _ _ _) rfl) rfl rfl rfl ?_
            refine gop (y_move (v := .string _) rfl) rfl rfl rfl ?_
            refine gop_got (fun v T' => ∃ lo, w.heap.size ≤ lo ∧ T' = [rowl intCells lo 3 1 (v) (findU (rls rs) (chgL (fpl fs) (fpl gs))[k])]) (e_call (vs := [.slice _ _ _, .string _]) Tryz.func40 rfl (by kernel_rfl) rfl) (fun w hM => (find_any w RA rcp rs (RulesR.lasts.base hRS hM) (chgL (fpl fs) (fpl gs))[k] (fun a ha => Nat.le_trans (patFault_size (ruleCode_zero (rulesF_each hrz a.pl (List.mem_map.2 ⟨a, ha, rfl⟩))).1) (by decide)) (Nat.le_trans (pathOk_size hpk) (by decide)) (fun a ha => Nat.le_trans (ruleCode_zero (rulesF_each hrz a.pl (List.mem_map.2 ⟨a, ha, rfl⟩))).2.1 (by decide))).mono fun _ _ ⟨v, T1, h1, h2, h3⟩ => ⟨v, T1, h1, ⟨_, hM.low.size, h2⟩, h3⟩) rfl rfl rfl ?_
            rintro v55 _ ⟨lo55, hlo55, rfl⟩
            refine gops_fact (fun w hM => row_form (hM.ok _ (List.mem_of_getElem? (i := 9) rfl))) ?_
            rintro ⟨A55, c55, rfl, hc55, hm55, hn55⟩
            refine gops_mem _ (weak_lower 9 rfl hlo55) ?_
            refine gop (y_assign (v := .slice A55 _ c55) rfl) rfl rfl rfl ?_
            refine gops_nil ?_
            refine hN21 _ _ ?_
            refine gT [box b6 _, box b7 _, box b9 _, rowl _ _ _ _ _ _, box b11 _, box b12 _, box b13 _, rowl _ _ _ _ _ _, rowl _ _ _ _ _ _, rowl _ _ _ _ _ _] rfl ?_
            refine gfrom [(0, .slice _ _ _), (1, .slice _ _ _), (9, .pointer _), (10, .slice _ _ _), (14, .slice Ov _ ov), (16, .string _), (17, .slice A55 _ c55), (47, .slice (some ⟨g47, 0, none⟩) _ c47), (48, .int _ _), (49, .int _ _)] ⟨rfl, rfl, rfl, rfl, rfl, rfl, rfl, rfl, rfl, rfl, trivial⟩ fun σ => ?_
            refine gseq fun N22 hN22 => ?_
            refine greg ?_
            refine gop (y_move (v := .slice A55 _ c55) rfl) rfl rfl rfl ?_
            refine gop (y_len Tryz.underlying74 rfl) rfl rfl rfl ?_
            refine gop (y_eql rfl rfl) rfl rfl rfl ?_
            refine gop (y_assign (v := .bool _) rfl) rfl rfl rfl ?_
            refine gops_nil ?_
            refine hN22 _ _ ?_
            refine gfrom [(0, .slice _ _ _), (1, .slice _ _ _), (9, .pointer _), (10, .slice _ _ _), (14, .slice Ov _ ov), (16, .string _), (17, .slice A55 _ c55), (18, .bool _), (47, .slice (some ⟨g47, 0, none⟩) _ c47), (48, .int _ _), (49, .int _ _)] ⟨rfl, rfl, rfl, rfl, rfl, rfl, rfl, rfl, rfl, rfl, rfl, trivial⟩ fun σ => ?_
            refine gseq fun N23 hN23 => ?_
            refine gseq fun N24 hN24 => ?_
            refine greg ?_
            refine gop (y_move (v := .slice _ _ _) rfl) rfl rfl rfl ?_
            refine gop (y_len Tryz.underlying58 rfl) rfl rfl rfl ?_
            refine gop (y_move (v := .int _ _) rfl) rfl rfl rfl ?_
            refine gops_nil ?_
            refine hN24 _ _ ?_
            refine gfrom [(0, .slice _ _ _), (1, .slice _ _ _), (9, .pointer _), (10, .slice _ _ _), (14, .slice Ov _ ov), (16, .string _), (17, .slice A55 _ c55), (18, .bool _), (47, .slice (some ⟨g47, 0, none⟩) _ c47), (48, .int _ _), (49, .int _ _), (59, .slice _ _ _), (60, .int _ _), (61, .int _ _)] ⟨rfl, rfl, rfl, rfl, rfl, rfl, rfl, rfl, rfl, rfl, rfl, rfl, rfl, rfl, trivial⟩ fun σ => ?_
            refine gblock ?_
            refine gfrom2 [(18, .bool _), (61, .int _ _)] [(0, .slice _ _ _), (1, .slice _ _ _), (9, .pointer _), (10, .slice _ _ _), (14, .slice Ov _ ov), (16, .string _), (17, .slice A55 _ c55), (47, .slice (some ⟨g47, 0, none⟩) _ c47), (48, .int _ _), (49, .int _ _), (59, .slice _ _ _), (60, .int _ _)] ⟨rfl, rfl, trivial⟩ ⟨rfl, rfl, rfl, rfl, rfl, rfl, rfl, rfl, rfl, rfl, rfl, rfl, trivial⟩ fun σ => ?_
            refine gloop2 (G := Nat) (fun j => j ≤ l.length) (fun j => l.length - j) (fun j => [(18, .bool (doneTo (rls rs) l (fpl gs) (chgL (fpl fs) (fpl gs))[k] j)), (61, .int .i64 (j : Int))]) (fun j => []) (0) ?h0 ⟨(congrArg Value.bool doneTo_zero), rfl, trivial⟩ ⟨rfl, rfl, rfl, rfl, rfl, rfl, rfl, rfl, rfl, rfl, rfl, rfl, trivial⟩ rfl ?round
            case h0 => exact Nat.zero_le _
            case round =>
              intro j hφ σ
              have hj : j ≤ l.length := hφ
              refine gseq fun N25 hN25 => ?_
              refine greg ?_
              refine gop (y_lss rfl rfl) rfl rfl rfl ?_
              refine gops_nil ?_
              refine hN25 _ _ ?_
              refine gfrom [(0, .slice _ _ _), (1, .slice _ _ _), (9, .pointer _), (10, .slice _ _ _), (14, .slice Ov _ ov), (16, .string _), (17, .slice A55 _ c55), (18, .bool _), (47, .slice (some ⟨g47, 0, none⟩) _ c47), (48, .int _ _), (49, .int _ _), (59, .slice _ _ _), (60, .int _ _), (61, .int _ _), (62, .bool _)] ⟨rfl, rfl, rfl, rfl, rfl, rfl, rfl, rfl, rfl, rfl, rfl, rfl, rfl, rfl, rfl, trivial⟩ fun σ => ?_
              refine gseq fun N26 hN26 => ?_
              refine gcond (b := _) rfl (fun hc62 => ?_) (fun hc62 => ?_)
              · 
                replace hc62 := of_decide_eq_true hc62
                have hj1 : j < l.length := by omega
                obtain ⟨ad, rfl, -, hca⟩ := hl.at_ hj1
                obtain ⟨g24, rfl⟩ := hg24 (by omega)
                refine gskip ?_
                refine hN26 _ _ ?_
                refine gfrom [(0, .slice _ _ _), (1, .slice _ _ _), (9, .pointer _), (10, .slice _ _ _), (14, .slice Ov _ ov), (16, .string _), (17, .slice A55 _ c55), (18, .bool _), (47, .slice (some ⟨g47, 0, none⟩) _ c47), (48, .int _ _), (49, .int _ _), (59, .slice _ _ _), (60, .int _ _), (61, .int _ _)] ⟨rfl, rfl, rfl, rfl, rfl, rfl, rfl, rfl, rfl, rfl, rfl, rfl, rfl, rfl, trivial⟩ fun σ => ?_
                refine gseq fun N27 hN27 => ?_
                refine gblock ?_
                refine gseq fun N28 hN28 => ?_
                refine greg ?_
                refine gop (y_move (v := .int _ _) rfl) rfl rfl rfl ?_
                refine gop (y_indexAddr (m := j) Tryz.underlying58 Tryz.sizeOf70 rfl rfl (by omega) (by omega) (by omega)) rfl rfl rfl ?_
                refine gop (y_loads (cs := [_, _, _]) Tryz.isAgg70 Tryz.sizeOf70 rfl rfl (cells_base hca)) rfl rfl rfl ?_
                refine gop_alloc (cs := #[.int .i64 0, .string .empty, .int .i64 0]) Tryz.zeroValue70 rfl rfl (fun b20 hb20 => ?_)
                refine gop (y_assign (v := .int _ _) rfl) rfl rfl rfl ?_
                refine gop_store 10 (v := .agg #[_, _, _]) (cs' := #[_, _, _]) rfl rfl Tryz.sizeOf70 rfl rfl rfl rfl (Nat.le_of_ble_eq_true rfl) rfl rfl ?_
                refine gops_nil ?_
                refine hN28 _ _ ?_
                refine gT [box b6 _, box b7 _, box b9 _, rowl _ _ _ _ _ _, box b11 _, box b12 _, box b13 _, rowl _ _ _ _ _ _, rowl _ _ _ _ _ _, rowl _ _ _ _ _ _, box b20 _] rfl ?_
                refine gfrom [(0, .slice _ _ _), (1, .slice _ _ _), (9, .pointer _), (10, .slice _ _ _), (14, .slice Ov _ ov), (16, .string _), (17, .slice A55 _ c55), (18, .bool _), (19, .int _ _), (20, .pointer _), (47, .slice (some ⟨g47, 0, none⟩) _ c47), (48, .int _ _), (49, .int _ _), (59, .slice _ _ _), (60, .int _ _), (61, .int _ _)] ⟨rfl, rfl, rfl, rfl, rfl, rfl, rfl, rfl, rfl, rfl, rfl, rfl, rfl, rfl, rfl, rfl, trivial⟩ fun σ => ?_
                refine greg ?_
                refine gop (y_move (v := .bool _) rfl) rfl rfl rfl ?_
                refine gop (y_move (v := .bool _) rfl) rfl rfl rfl ?_
                refine gop_if (want := false) rfl rfl rfl rfl rfl rfl (fun hg67 => ?_) (fun hg67 => ?_)
                · 
                  have hd0 : doneTo (rls rs) l (fpl gs) (chgL (fpl fs) (fpl gs))[k] j = false := hg67
                  refine gop (y_bare (y_move (v := .slice _ _ _) rfl)) rfl rfl rfl ?_
                  refine gop_on rfl rfl rfl rfl hg67 ?_
                  refine gop (y_bare (y_move (v := .int _ _) rfl)) rfl rfl rfl ?_
                  refine gop_on rfl rfl rfl rfl hg67 ?_
                  refine gop (y_bare (y_indexAddr (m := j) Tryz.underlying46 Tryz.sizeOf4 rfl rfl (by omega) (by omega) (by omega))) rfl rfl rfl ?_
                  refine gop_on rfl rfl rfl rfl hg67 ?_
                  refine gop (y_bare (y_load Tryz.isAgg4 rfl (cells_rowl 3 (f := boolCells) (l := validV l (fpl gs)) rfl rfl (fun _ => rfl) (validV_get hvz hj1) 0 _ rfl))) rfl rfl rfl ?_
                  refine gop_on rfl rfl rfl rfl hg67 ?_
                  refine gop (y_bare (y_move (v := .bool _) rfl)) rfl rfl rfl ?_
                  refine gop_if (want := true) rfl rfl rfl rfl rfl rfl (fun hg72 => ?_) (fun hg72 => ?_)
                  · 
                    have hk72 : decide (l[j].dig = descP (fpl gs) l[j].path) = true := hg72
                    refine gop (y_bare (y_fieldAddr_box fa70_1 rfl)) rfl rfl rfl ?_
                    refine gop_on rfl rfl rfl rfl hg72 ?_
                    refine gop (y_bare (y_load Tryz.isAgg9 rfl (cell_box 10 rfl rfl))) rfl rfl rfl ?_
                    refine gop_on rfl rfl rfl rfl hg72 ?_
                    refine gop (y_bare (y_move (v := .string _) rfl)) rfl rfl rfl ?_
                    refine gop_on rfl rfl rfl rfl hg72 ?_
                    refine gop (y_bare (y_eqls rfl rfl)) rfl rfl rfl ?_
                    refine gop_on rfl rfl rfl rfl hg67 ?_
                    refine gop (y_bare (y_pick_t (v := .bool _) rfl hg72 rfl)) rfl rfl rfl ?_
                    refine gop_on rfl rfl rfl rfl hg67 ?_
                    refine gop (y_bare (y_move (v := .bool _) rfl)) rfl rfl rfl ?_
                    refine gop_if (want := true) rfl rfl rfl rfl rfl rfl (fun hg78 => ?_) (fun hg78 => ?_)
                    · 
                      have hk78 : (l[j].path.toList == ((chgL (fpl fs) (fpl gs))[k]).toList) = true := hg78
                      refine gop (y_bare (y_move (v := .slice A55 _ c55) rfl)) rfl rfl rfl ?_
                      refine gop_on rfl rfl rfl rfl hg78 ?_
                      refine gop (y_bare (y_fieldAddr_box fa70_0 rfl)) rfl rfl rfl ?_
                      refine gop_on rfl rfl rfl rfl hg78 ?_
                      refine gop (y_bare (y_load Tryz.isAgg3 rfl (cell_box 10 rfl rfl))) rfl rfl rfl ?_
                      refine gop_on rfl rfl rfl rfl hg78 ?_
                      refine gop_pure (e_call (vs := [.slice A55 _ c55, .int _ _]) Tryz.func41 rfl (by kernel_rfl) rfl) (fun w hM => by have h1 : Rdl w 0 1 intCells A55 (findU (rls rs) (chgL (fpl fs) (fpl gs))[k]) := ((row_rdl (f := intCells) (fun _ => rfl) (hM.ok _ (List.mem_of_getElem? (i := 9) rfl))).mono (Nat.zero_le _)); have hc := containsI_any w A55 c55 (findU (rls rs) (chgL (fpl fs) (fpl gs))[k]) h1 (Nat.le_trans hc55 hm55) l[j].user; exact hc) rfl rfl rfl ?_
                      refine gop_on rfl rfl rfl rfl hg67 ?_
                      refine gop (y_bare (y_pick_t (v := .bool _) rfl hg78 rfl)) rfl rfl rfl ?_
                      refine gop (y_pick_f (v := .bool _) rfl hg67 rfl) rfl rfl rfl ?_
                      refine gop (y_assign (v := .bool _) rfl) rfl rfl rfl ?_
                      refine gops_nil ?_
                      refine hN27 _ _ ?_
                      refine gfrom [(0, .slice _ _ _), (1, .slice _ _ _), (9, .pointer _), (10, .slice _ _ _), (14, .slice Ov _ ov), (16, .string _), (17, .slice A55 _ c55), (18, .bool _), (47, .slice (some ⟨g47, 0, none⟩) _ c47), (48, .int _ _), (49, .int _ _), (59, .slice _ _ _), (60, .int _ _), (61, .int _ _)] ⟨rfl, rfl, rfl, rfl, rfl, rfl, rfl, rfl, rfl, rfl, rfl, rfl, rfl, rfl, trivial⟩ fun σ => ?_
                      refine greg ?_
                      refine gop (y_add rfl rfl ⟨by omega, by omega⟩) rfl rfl rfl ?_
                      refine gop (y_move (v := .int _ _) rfl) rfl rfl rfl ?_
                      refine gops_nil ?_
                      refine gnext2 (j + 1) (by omega) (show j + 1 ≤ _ by omega) ⟨(congrArg Value.bool (done_yes hj1 hd0 hk72 hk78)), rfl, trivial⟩ ⟨rfl, rfl, rfl, rfl, rfl, rfl, rfl, rfl, rfl, rfl, rfl, rfl, trivial⟩ ⟨_, rfl⟩
                    · 
                      have hk78 : (l[j].path.toList == ((chgL (fpl fs) (fpl gs))[k]).toList) = false := hg78
                      refine gop_off rfl rfl rfl rfl hg78 rfl rfl ?_
                      refine gop_off rfl rfl rfl rfl hg78 rfl rfl ?_
                      refine gop_off rfl rfl rfl rfl hg78 rfl rfl ?_
                      refine gop_on rfl rfl rfl rfl hg67 ?_
                      refine gop (y_bare (y_pick_f (v := .bool _) rfl hg78 rfl)) rfl rfl rfl ?_
                      refine gop (y_pick_f (v := .bool _) rfl hg67 rfl) rfl rfl rfl ?_
                      refine gop (y_assign (v := .bool _) rfl) rfl rfl rfl ?_
                      refine gops_nil ?_
                      refine hN27 _ _ ?_
                      refine gfrom [(0, .slice _ _ _), (1, .slice _ _ _), (9, .pointer _), (10, .slice _ _ _), (14, .slice Ov _ ov), (16, .string _), (17, .slice A55 _ c55), (18, .bool _), (47, .slice (some ⟨g47, 0, none⟩) _ c47), (48, .int _ _), (49, .int _ _), (59, .slice _ _ _), (60, .int _ _), (61, .int _ _)] ⟨rfl, rfl, rfl, rfl, rfl, rfl, rfl, rfl, rfl, rfl, rfl, rfl, rfl, rfl, trivial⟩ fun σ => ?_
                      refine greg ?_
                      refine gop (y_add rfl rfl ⟨by omega, by omega⟩) rfl rfl rfl ?_
                      refine gop (y_move (v := .int _ _) rfl) rfl rfl rfl ?_
                      refine gops_nil ?_
                      refine gnext2 (j + 1) (by omega) (show j + 1 ≤ _ by omega) ⟨(congrArg Value.bool (done_no2 hj1 hd0 hk78)), rfl, trivial⟩ ⟨rfl, rfl, rfl, rfl, rfl, rfl, rfl, rfl, rfl, rfl, rfl, rfl, trivial⟩ ⟨_, rfl⟩
                  · 
                    have hk72 : decide (l[j].dig = descP (fpl gs) l[j].path) = false := hg72
                    refine gop_off rfl rfl rfl rfl hg72 rfl rfl ?_
                    refine gop_off rfl rfl rfl rfl hg72 rfl rfl ?_
                    refine gop_off rfl rfl rfl rfl hg72 rfl rfl ?_
                    refine gop_on rfl rfl rfl rfl hg67 ?_
                    refine gop (y_bare (y_pick_f (v := .bool _) rfl hg72 rfl)) rfl rfl rfl ?_
                    refine gop_on rfl rfl rfl rfl hg67 ?_
                    refine gop (y_bare (y_move (v := .bool _) rfl)) rfl rfl rfl ?_
                    refine gop_off rfl rfl rfl rfl rfl rfl rfl ?_
                    refine gop_off rfl rfl rfl rfl rfl rfl rfl ?_
                    refine gop_off rfl rfl rfl rfl rfl rfl rfl ?_
                    refine gop_off rfl rfl rfl rfl rfl rfl rfl ?_
                    refine gop_on rfl rfl rfl rfl hg67 ?_
                    refine gop (y_bare (y_pick_f (v := .bool _) rfl rfl rfl)) rfl rfl rfl ?_
                    refine gop (y_pick_f (v := .bool _) rfl hg67 rfl) rfl rfl rfl ?_
                    refine gop (y_assign (v := .bool _) rfl) rfl rfl rfl ?_
                    refine gops_nil ?_
                    refine hN27 _ _ ?_
                    refine gfrom [(0, .slice _ _ _), (1, .slice _ _ _), (9, .pointer _), (10, .slice _ _ _), (14, .slice Ov _ ov), (16, .string _), (17, .slice A55 _ c55), (18, .bool _), (47, .slice (some ⟨g47, 0, none⟩) _ c47), (48, .int _ _), (49, .int _ _), (59, .slice _ _ _), (60, .int _ _), (61, .int _ _)] ⟨rfl, rfl, rfl, rfl, rfl, rfl, rfl, rfl, rfl, rfl, rfl, rfl, rfl, rfl, trivial⟩ fun σ => ?_
                    refine greg ?_
                    refine gop (y_add rfl rfl ⟨by omega, by omega⟩) rfl rfl rfl ?_
                    refine gop (y_move (v := .int _ _) rfl) rfl rfl rfl ?_
                    refine gops_nil ?_
                    refine gnext2 (j + 1) (by omega) (show j + 1 ≤ _ by omega) ⟨(congrArg Value.bool (done_no1 hj1 hd0 hk72)), rfl, trivial⟩ ⟨rfl, rfl, rfl, rfl, rfl, rfl, rfl, rfl, rfl, rfl, rfl, rfl, trivial⟩ ⟨_, rfl⟩
                · 
                  have hd0 : doneTo (rls rs) l (fpl gs) (chgL (fpl fs) (fpl gs))[k] j = true := hg67
                  refine gop_off rfl rfl rfl rfl hg67 rfl rfl ?_
                  refine gop_off rfl rfl rfl rfl hg67 rfl rfl ?_
                  refine gop_off rfl rfl rfl rfl hg67 rfl rfl ?_
                  refine gop_off rfl rfl rfl rfl hg67 rfl rfl ?_
                  refine gop_offu rfl rfl rfl rfl rfl rfl ?_
                  refine gop_offu rfl rfl rfl rfl rfl rfl ?_
                  refine gop_offu rfl rfl rfl rfl rfl rfl ?_
                  refine gop_offu rfl rfl rfl rfl rfl rfl ?_
                  refine gop_off rfl rfl rfl rfl hg67 rfl rfl ?_
                  refine gop_off rfl rfl rfl rfl hg67 rfl rfl ?_
                  refine gop_offu rfl rfl rfl rfl rfl rfl ?_
                  refine gop_offu rfl rfl rfl rfl rfl rfl ?_
                  refine gop_offu rfl rfl rfl rfl rfl rfl ?_
                  refine gop_offu rfl rfl rfl rfl rfl rfl ?_
                  refine gop_off rfl rfl rfl rfl hg67 rfl rfl ?_
                  refine gop (y_pick_t (v := .bool _) rfl hg67 rfl) rfl rfl rfl ?_
                  refine gop (y_assign (v := .bool _) rfl) rfl rfl rfl ?_
                  refine gops_nil ?_
                  refine hN27 _ _ ?_
                  refine gfrom [(0, .slice _ _ _), (1, .slice _ _ _), (9, .pointer _), (10, .slice _ _ _), (14, .slice Ov _ ov), (16, .string _), (17, .slice A55 _ c55), (18, .bool _), (47, .slice (some ⟨g47, 0, none⟩) _ c47), (48, .int _ _), (49, .int _ _), (59, .slice _ _ _), (60, .int _ _), (61, .int _ _)] ⟨rfl, rfl, rfl, rfl, rfl, rfl, rfl, rfl, rfl, rfl, rfl, rfl, rfl, rfl, trivial⟩ fun σ => ?_
                  refine greg ?_
                  refine gop (y_add rfl rfl ⟨by omega, by omega⟩) rfl rfl rfl ?_
                  refine gop (y_move (v := .int _ _) rfl) rfl rfl rfl ?_
                  refine gops_nil ?_
                  refine gnext2 (j + 1) (by omega) (show j + 1 ≤ _ by omega) ⟨(congrArg Value.bool (done_old hj1 hd0)), rfl, trivial⟩ ⟨rfl, rfl, rfl, rfl, rfl, rfl, rfl, rfl, rfl, rfl, rfl, rfl, trivial⟩ ⟨_, rfl⟩
              · 
                replace hc62 := of_decide_eq_false hc62
                have hdA : doneTo (rls rs) l (fpl gs) (chgL (fpl fs) (fpl gs))[k] j = doneB (rls rs) l (fpl gs) (chgL (fpl fs) (fpl gs))[k] := doneTo_all (by omega)
                refine gexit ?_
                refine hN23 _ _ ?_
                refine gfrom [(0, .slice _ _ _), (1, .slice _ _ _), (9, .pointer _), (10, .slice _ _ _), (14, .slice Ov _ ov), (16, .string _), (18, .bool _), (47, .slice (some ⟨g47, 0, none⟩) _ c47), (48, .int _ _), (49, .int _ _)] ⟨rfl, rfl, rfl, rfl, rfl, rfl, rfl, rfl, rfl, rfl, trivial⟩ fun σ => ?_
                refine gseq fun N29 hN29 => ?_
                refine greg ?_
                refine gop (y_move (v := .bool _) rfl) rfl rfl rfl ?_
                refine gop (y_not rfl) rfl rfl rfl ?_
                refine gops_nil ?_
                refine hN29 _ _ ?_
                refine gfrom [(0, .slice _ _ _), (1, .slice _ _ _), (9, .pointer _), (10, .slice _ _ _), (14, .slice Ov _ ov), (16, .string _), (47, .slice (some ⟨g47, 0, none⟩) _ c47), (48, .int _ _), (49, .int _ _), (87, .bool _)] ⟨rfl, rfl, rfl, rfl, rfl, rfl, rfl, rfl, rfl, rfl, trivial⟩ fun σ => ?_
                refine gcond (b := _) rfl (fun hc87 => ?_) (fun hc87 => ?_)
                · 
                  rw [hdA] at hc87
                  refine greg ?_
                  refine gop (y_move (v := .slice Ov _ ov) rfl) rfl rfl rfl ?_
                  refine gop (y_move (v := .string _) rfl) rfl rfl rfl ?_
                  refine gop_lit (vs := [.string _]) (cells := #[_]) Tryz.underlying22 Tryz.sizeOf9 Tryz.zeroValue9 rfl (by decide) (by decide) rfl rfl rfl rfl (fun b90 hb90 => ?_)
                  refine gop_append 8 (f := strCells) (l2 := [(chgL (fpl fs) (fpl gs))[k]]) Tryz.underlying22 el9 wide_str (v := .slice Ov _ ov) rfl rfl rfl rfl (fun h => by cases h) (by simp [maxLen]; omega) (by simp; omega) (src_box 10 rfl rfl) rfl (fun v91 => ?_)
                  refine gops_fact (fun w hM => own_form (hM.own 8 rfl)) ?_
                  rintro ⟨A91, c91, rfl, hc91, hm91⟩
                  refine gop (y_assign (v := .slice A91 _ c91) rfl) rfl rfl rfl ?_
                  refine gops_nil ?_
                  refine hN19 _ _ ?_
                  refine gT [box b6 _, box b7 _, box b9 _, rowl _ _ _ _ _ _, box b11 _, box b12 _, box b13 _, rowl _ _ _ _ _ _, rowl _ _ _ _ _ _, rowl _ _ _ _ _ _, box b90 _] rfl ?_
                  refine gfrom [(0, .slice _ _ _), (1, .slice _ _ _), (9, .pointer _), (10, .slice _ _ _), (14, .slice A91 _ c91), (47, .slice (some ⟨g47, 0, none⟩) _ c47), (48, .int _ _), (49, .int _ _)] ⟨rfl, rfl, rfl, rfl, rfl, rfl, rfl, rfl, trivial⟩ fun σ => ?_
                  refine greg ?_
                  refine gop (y_add rfl rfl ⟨by omega, by omega⟩) rfl rfl rfl ?_
                  refine gop (y_move (v := .int _ _) rfl) rfl rfl rfl ?_
                  refine gops_nil ?_
                  rw [← missTo_yes hk1 hc87]
                  refine gnext2 ((k + 1, A91, c91)) (by show (chgL (fpl fs) (fpl gs)).length - (k + 1) < (chgL (fpl fs) (fpl gs)).length - k; omega) (show k + 1 ≤ _ by omega) ⟨(by rw [missTo_yes hk1 hc87]; rfl), rfl, trivial⟩ ⟨rfl, rfl, rfl, rfl, rfl, rfl, trivial⟩ ⟨_, rfl⟩
                · 
                  rw [hdA] at hc87
                  refine gskip ?_
                  refine hN19 _ _ ?_
                  refine gfrom [(0, .slice _ _ _), (1, .slice _ _ _), (9, .pointer _), (10, .slice _ _ _), (14, .slice Ov _ ov), (47, .slice (some ⟨g47, 0, none⟩) _ c47), (48, .int _ _), (49, .int _ _)] ⟨rfl, rfl, rfl, rfl, rfl, rfl, rfl, rfl, trivial⟩ fun σ => ?_
                  refine greg ?_
                  refine gop (y_add rfl rfl ⟨by omega, by omega⟩) rfl rfl rfl ?_
                  refine gop (y_move (v := .int _ _) rfl) rfl rfl rfl ?_
                  refine gops_nil ?_
                  rw [← missTo_no hk1 hc87]
                  refine gnext2 ((k + 1, Ov, ov)) (by show (chgL (fpl fs) (fpl gs)).length - (k + 1) < (chgL (fpl fs) (fpl gs)).length - k; omega) (show k + 1 ≤ _ by omega) ⟨rfl, rfl, trivial⟩ ⟨rfl, rfl, rfl, rfl, rfl, rfl, trivial⟩ ⟨_, rfl⟩
          · 
            replace hc50 := of_decide_eq_false hc50
            refine gexit ?_
            refine hN15 _ _ ?_
            refine gfrom [(9, .pointer _), (14, .slice Ov _ ov)] ⟨rfl, rfl, trivial⟩ fun σ => ?_
            refine gseq fun N30 hN30 => ?_
            refine greg ?_
            refine gop (y_move (v := .slice Ov _ ov) rfl) rfl rfl rfl ?_
            refine gop (y_build (vs := []) (cells := #[.int .i64 0, .int .i64 0]) rfl bd33_) rfl rfl rfl ?_
            refine gop (y_assign (v := .slice Ov _ ov) rfl) rfl rfl rfl ?_
            refine gop_store 2 (v := .agg #[_, _]) (cs' := #[_, _]) rfl rfl Tryz.sizeOf33 rfl rfl rfl rfl (Nat.le_of_ble_eq_true rfl) rfl rfl ?_
            refine gops_nil ?_
            refine hN30 _ _ ?_
            refine gT [box b6 _, box b7 _, box b9 _, rowl _ _ _ _ _ _, box b11 _, box b12 _, box b13 _, rowl _ _ _ _ _ _, rowl _ _ _ _ _ _] rfl ?_
            refine gfrom [(8, .slice Ov _ ov), (9, .pointer _)] ⟨rfl, rfl, trivial⟩ fun σ => ?_
            refine gret fun w1 hM => ?_
            refine ⟨_, res2 rfl (rt (v := .slice Ov _ ov) rfl) (rc 2 (cs := [_, _]) hM rfl rfl Tryz.isAgg33 Tryz.sizeOf33 rfl), ?_⟩
            have hmA := missTo_all (rs := rls rs) (l := l) (a := fpl fs) (b := fpl gs) (k := k) (by omega)
            rw [hmA] at hM
            exact ⟨_, _, by rw [hF, hmA], by rw [missV, if_pos hF]; rfl, hM.dropTo 8 rfl⟩
set_option maxHeartbeats 2000000 in
theorem fileIndex_any (w : World) (A : Option Addr) (c : Nat) (fs : List FileC) (hR : TreeR w 0 A c fs) (path : ByteArray) : Calls Tryz.prog 46 #[.agg #[.slice A fs.length c], .string path] w fun e w' => e = .returned (.int .i64 (fidx fs path)) ∧ Below w.heap.size w w' := by
  have hsl := hR.sb.len
  have hsm := hR.sb.max
  have hmx : maxLen = 9223372036854775807 := rfl
  refine gcalls Tryz.func46 rfl Tryz.ntmps46 (Nat.le_of_ble_eq_true rfl) ?_
  refine gfrom [(0, .agg #[_]), (1, .string _)] ⟨rfl, rfl, trivial⟩ fun σ => ?_
  refine gseq fun N1 hN1 => ?_
  refine greg ?_
  refine gop_box (v := .agg #[_]) (cs := #[_]) rfl rfl rfl (fun b2 hb2 => ?_)
  refine gop (y_assign (v := .int _ _) rfl) rfl rfl rfl ?_
  refine gops_nil ?_
  refine hN1 _ _ ?_
  refine gT [box b2 _] rfl ?_
  refine gfrom [(1, .string _), (2, .pointer _)] ⟨rfl, rfl, trivial⟩ fun σ => ?_
  refine gseq fun N2 hN2 => ?_
  refine gseq fun N3 hN3 => ?_
  refine greg ?_
  refine gop (y_assign (v := .int _ _) rfl) rfl rfl rfl ?_
  refine gops_nil ?_
  refine hN3 _ _ ?_
  refine gfrom [(1, .string _), (2, .pointer _), (5, .int _ _)] ⟨rfl, rfl, rfl, trivial⟩ fun σ => ?_
  refine gblock ?_
  refine gfrom2 [(5, .int _ _)] [(1, .string _), (2, .pointer _)] ⟨rfl, trivial⟩ ⟨rfl, rfl, trivial⟩ fun σ => ?_
  refine gloop2 (G := Nat) (fun k => k ≤ fs.length ∧ ∀ j (h : j < fs.length), j < k → fs[j].pl.path ≠ path) (fun k => fs.length - k) (fun k => [(5, .int .i64 (k : Int))]) (fun k => []) (0) ?h0 ⟨rfl, trivial⟩ ⟨rfl, rfl, trivial⟩ rfl ?round
  case h0 => exact ⟨Nat.zero_le _, fun _ _ h => absurd h (Nat.not_lt_zero _)⟩
  case round =>
    intro k hφ σ
    obtain ⟨hk, hz⟩ := hφ
    refine gseq fun N4 hN4 => ?_
    refine gseq fun N5 hN5 => ?_
    refine greg ?_
    refine gop (y_move (v := .int _ _) rfl) rfl rfl rfl ?_
    refine gop (y_fieldAddr_box fa61_0 rfl) rfl rfl rfl ?_
    refine gop (y_load Tryz.isAgg59 rfl (cell_box 0 rfl rfl)) rfl rfl rfl ?_
    refine gop (y_len Tryz.underlying59 rfl) rfl rfl rfl ?_
    refine gop (y_lss rfl rfl) rfl rfl rfl ?_
    refine gops_nil ?_
    refine hN5 _ _ ?_
    refine gfrom [(1, .string _), (2, .pointer _), (5, .int _ _), (10, .bool _)] ⟨rfl, rfl, rfl, rfl, trivial⟩ fun σ => ?_
    refine gcond (b := _) rfl (fun hc10 => ?_) (fun hc10 => ?_)
    · 
      replace hc10 := of_decide_eq_true hc10
      have hk1 : k < fs.length := by omega
      obtain ⟨ad, rfl, -, hca⟩ := hR.rd.at_ hk1
      refine gskip ?_
      refine hN4 _ _ ?_
      refine gfrom [(1, .string _), (2, .pointer _), (5, .int _ _)] ⟨rfl, rfl, rfl, trivial⟩ fun σ => ?_
      refine gseq fun N6 hN6 => ?_
      refine gblock ?_
      refine gseq fun N7 hN7 => ?_
      refine greg ?_
      refine gop (y_fieldAddr_box fa61_0 rfl) rfl rfl rfl ?_
      refine gop (y_load Tryz.isAgg59 rfl (cell_box 0 rfl rfl)) rfl rfl rfl ?_
      refine gop (y_move (v := .int _ _) rfl) rfl rfl rfl ?_
      refine gop (y_indexAddr (m := k) Tryz.underlying59 Tryz.sizeOf85 rfl rfl (by omega) (by omega) (by omega)) rfl rfl rfl ?_
      refine gop (y_fieldAddr_add fa85_0 rfl) rfl rfl rfl ?_
      refine gop (y_load Tryz.isAgg9 rfl (cell_base (hca 0 _ rfl))) rfl rfl rfl ?_
      refine gop (y_move (v := .string _) rfl) rfl rfl rfl ?_
      refine gop (y_eqls rfl rfl) rfl rfl rfl ?_
      refine gops_nil ?_
      refine hN7 _ _ ?_
      refine gfrom [(1, .string _), (2, .pointer _), (5, .int _ _), (20, .bool _)] ⟨rfl, rfl, rfl, rfl, trivial⟩ fun σ => ?_
      refine gcond (b := _) rfl (fun hc20 => ?_) (fun hc20 => ?_)
      · 
        replace hc20 := sb_eq_t hc20
        refine gseq fun N8 hN8 => ?_
        refine greg ?_
        refine gop (y_move (v := .int _ _) rfl) rfl rfl rfl ?_
        refine gop (y_assign (v := .int _ _) rfl) rfl rfl rfl ?_
        refine gops_nil ?_
        refine hN8 _ _ ?_
        refine gfrom [(4, .int _ _)] ⟨rfl, trivial⟩ fun σ => ?_
        refine gret fun w1 hM => ?_
        refine ⟨_, res1 rfl (rt (v := .int _ _) rfl), ?_⟩
        exact ⟨by rw [fidx_hit hk1 hz hc20], hM.low⟩
      · 
        replace hc20 := sb_ne_f hc20
        refine gskip ?_
        refine hN6 _ _ ?_
        refine gfrom [(1, .string _), (2, .pointer _), (5, .int _ _)] ⟨rfl, rfl, rfl, trivial⟩ fun σ => ?_
        refine greg ?_
        refine gop (y_move (v := .int _ _) rfl) rfl rfl rfl ?_
        refine gop (y_add rfl rfl ⟨by omega, by omega⟩) rfl rfl rfl ?_
        refine gop (y_assign (v := .int _ _) rfl) rfl rfl rfl ?_
        refine gops_nil ?_
        refine gnext2 (k + 1) (by omega) (⟨by omega, fun j h hj => by rcases Nat.lt_succ_iff_lt_or_eq.1 hj with h1 | rfl; exact hz j h h1; exact hc20⟩) ⟨rfl, trivial⟩ ⟨rfl, rfl, trivial⟩ ⟨_, rfl⟩
    · 
      replace hc10 := of_decide_eq_false hc10
      refine gexit ?_
      refine hN2 _ _ ?_
      refine gfrom [] trivial fun σ => ?_
      refine gseq fun N9 hN9 => ?_
      refine greg ?_
      refine gop (y_assign (v := .int _ _) rfl) rfl rfl rfl ?_
      refine gops_nil ?_
      refine hN9 _ _ ?_
      refine gfrom [(4, .int _ _)] ⟨rfl, trivial⟩ fun σ => ?_
      refine gret fun w1 hM => ?_
      refine ⟨_, res1 rfl (rt (v := .int _ _) rfl), ?_⟩
      exact ⟨by rw [fidx_none (fun j hj => hz j hj (by omega))], hM.low⟩
set_option maxHeartbeats 2000000 in
theorem seen_any (w : World) (A : Option Addr) (c : Nat) (fs : List FileC) (hR : TreeR w 0 A c fs) (v : VTree (fpl fs)) (path : ByteArray) : Calls Tryz.prog 18 #[.agg #[.slice A fs.length c], .string path] w fun e w' => e = .returned (.int .i64 (descP (fpl fs) path)) ∧ Below w.heap.size w w' := by
  have hsl := hR.sb.len
  have hsm := hR.sb.max
  have hmx : maxLen = 9223372036854775807 := rfl
  refine gcalls Tryz.func18 rfl Tryz.ntmps18 (Nat.le_of_ble_eq_true rfl) ?_
  refine gfrom [(0, .agg #[_]), (1, .string _)] ⟨rfl, rfl, trivial⟩ fun σ => ?_
  refine gseq fun N1 hN1 => ?_
  refine greg ?_
  refine gop_box (v := .agg #[_]) (cs := #[_]) rfl rfl rfl (fun b2 hb2 => ?_)
  refine gop (y_assign (v := .int _ _) rfl) rfl rfl rfl ?_
  refine gops_nil ?_
  refine hN1 _ _ ?_
  refine gT [box b2 _] rfl ?_
  refine gfrom [(1, .string _), (2, .pointer _)] ⟨rfl, rfl, trivial⟩ fun σ => ?_
  refine gseq fun N2 hN2 => ?_
  refine greg ?_
  refine gop (y_loads (cs := [_]) Tryz.isAgg61 Tryz.sizeOf61 rfl rfl (cells_box 0 rfl)) rfl rfl rfl ?_
  refine gop (y_move (v := .string _) rfl) rfl rfl rfl ?_
  refine gop_pure (e_call (vs := [.agg #[_], .string _]) Tryz.func46 rfl (by kernel_rfl) rfl) (fun w hM => fileIndex_any w A c fs (hR.base hM) path) rfl rfl rfl ?_
  refine gop (y_assign (v := .int _ _) rfl) rfl rfl rfl ?_
  refine gops_nil ?_
  refine hN2 _ _ ?_
  refine gfrom [(2, .pointer _), (5, .int _ _)] ⟨rfl, rfl, trivial⟩ fun σ => ?_
  refine gseq fun N3 hN3 => ?_
  refine gseq fun N4 hN4 => ?_
  refine greg ?_
  refine gop (y_move (v := .int _ _) rfl) rfl rfl rfl ?_
  refine gop (y_lss rfl rfl) rfl rfl rfl ?_
  refine gops_nil ?_
  refine hN4 _ _ ?_
  refine gfrom [(2, .pointer _), (5, .int _ _), (12, .bool _)] ⟨rfl, rfl, rfl, trivial⟩ fun σ => ?_
  refine gcond (b := _) rfl (fun hc12 => ?_) (fun hc12 => ?_)
  · 
    replace hc12 := of_decide_eq_true hc12
    have hD : descP (fpl fs) path = -1 := desc_none (fidx_neg hc12)
    refine gseq fun N5 hN5 => ?_
    refine greg ?_
    refine gop (y_assign (v := .int _ _) rfl) rfl rfl rfl ?_
    refine gops_nil ?_
    refine hN5 _ _ ?_
    refine gfrom [(4, .int _ _)] ⟨rfl, trivial⟩ fun σ => ?_
    refine gret fun w1 hM => ?_
    refine ⟨_, res1 rfl (rt (v := .int _ _) rfl), ?_⟩
    exact ⟨by rw [hD], hM.low⟩
  · 
    replace hc12 := of_decide_eq_false hc12
    obtain ⟨k, hk1, hki, hkp⟩ := fidx_pos hc12
    obtain ⟨ad, rfl, -, hca⟩ := hR.rd.at_ hk1
    have hRk := hR.each _ (List.getElem_mem hk1)
    have hlz : linesF fs[k].pl.lines = ⟨0, 0⟩ := v.lines _ (List.mem_map_of_mem (List.getElem_mem hk1))
    have hD : descP (fpl fs) path = strD fs[k].pl.lines := desc_at v hk1 hkp
    refine gskip ?_
    refine hN3 _ _ ?_
    refine gfrom [(2, .pointer _), (5, .int _ _)] ⟨rfl, rfl, trivial⟩ fun σ => ?_
    refine gseq fun N6 hN6 => ?_
    refine greg ?_
    refine gop (y_fieldAddr_box fa61_0 rfl) rfl rfl rfl ?_
    refine gop (y_load Tryz.isAgg59 rfl (cell_box 0 rfl rfl)) rfl rfl rfl ?_
    refine gop (y_move (v := .int _ _) rfl) rfl rfl rfl ?_
    refine gop (y_indexAddr (m := k) Tryz.underlying59 Tryz.sizeOf85 rfl rfl (by omega) (by omega) (by omega)) rfl rfl rfl ?_
    refine gop (y_fieldAddr_add fa85_1 rfl) rfl rfl rfl ?_
    refine gop (y_load Tryz.isAgg22 rfl (cell_base (hca 1 _ rfl))) rfl rfl rfl ?_
    refine gop_pure (e_call (vs := [.slice _ _ _]) Tryz.func47 rfl (by kernel_rfl) rfl) (fun w hM => dStr_any w _ _ fs[k].pl.lines (hRk.rd.base hM) (linesF_len hlz) (linesF_sizes hlz)) rfl rfl rfl ?_
    refine gop (y_move (v := .tuple #[.int _ _, .agg #[_, _]]) rfl) rfl rfl rfl ?_
    refine gop (y_extract (v := .int _ _) rfl rfl) rfl rfl rfl ?_
    refine gop (y_extract (v := .agg #[_, _]) rfl rfl) rfl rfl rfl ?_
    refine gop_alloc (cs := #[.int .i64 0, .int .i64 0]) Tryz.zeroValue33 rfl rfl (fun b7 hb7 => ?_)
    refine gop (y_assign (v := .int _ _) rfl) rfl rfl rfl ?_
    refine gop_store 1 (v := .agg #[_, _]) (cs' := #[_, _]) rfl rfl Tryz.sizeOf33 rfl rfl rfl rfl (Nat.le_of_ble_eq_true rfl) rfl rfl ?_
    refine gops_nil ?_
    refine hN6 _ _ ?_
    refine gT [box b2 _, box b7 _] rfl ?_
    refine gfrom [(6, .int _ _)] ⟨rfl, trivial⟩ fun σ => ?_
    refine gseq fun N7 hN7 => ?_
    refine greg ?_
    refine gop (y_move (v := .int _ _) rfl) rfl rfl rfl ?_
    refine gop (y_assign (v := .int _ _) rfl) rfl rfl rfl ?_
    refine gops_nil ?_
    refine hN7 _ _ ?_
    refine gfrom [(4, .int _ _)] ⟨rfl, trivial⟩ fun σ => ?_
    refine gret fun w1 hM => ?_
    refine ⟨_, res1 rfl (rt (v := .int _ _) rfl), ?_⟩
    exact ⟨by rw [hD], hM.low⟩
set_option maxHeartbeats 2000000 in
theorem treeCode_any (w : World) (A : Option Addr) (c : Nat) (fs : List FileC) (hR : TreeR w 0 A c fs) (i : Int) : Calls Tryz.prog 17 #[.agg #[.slice A fs.length c], .int .i64 i] w fun e w' => e = .returned (fv (secondF (treeF (fpl fs)) i)) ∧ Below w.heap.size w w' := by
  refine gcalls Tryz.func17 rfl Tryz.ntmps17 (Nat.le_of_ble_eq_true rfl) ?_
  refine gfrom [(0, .agg #[_]), (1, .int _ _)] ⟨rfl, rfl, trivial⟩ fun σ => ?_
  refine gseq fun N1 hN1 => ?_
  refine greg ?_
  refine gop_box (v := .agg #[_]) (cs := #[_]) rfl rfl rfl (fun b2 hb2 => ?_)
  refine gop_alloc (cs := #[.int .i64 0, .int .i64 0]) Tryz.zeroValue33 rfl rfl (fun b4 hb4 => ?_)
  refine gops_nil ?_
  refine hN1 _ _ ?_
  refine gT [box b2 _, box b4 _] rfl ?_
  refine gfrom [(1, .int _ _), (2, .pointer _), (4, .pointer _)] ⟨rfl, rfl, rfl, trivial⟩ fun σ => ?_
  refine gseq fun N2 hN2 => ?_
  refine gseq fun N3 hN3 => ?_
  refine greg ?_
  refine gop (y_loads (cs := [_]) Tryz.isAgg61 Tryz.sizeOf61 rfl rfl (cells_box 0 rfl)) rfl rfl rfl ?_
  refine gop_pure (e_call (vs := [.agg #[_]]) Tryz.func45 rfl (by kernel_rfl) rfl) (fun w hM => treeValidate_any w A c fs (hR.base hM)) rfl rfl rfl ?_
  refine gop (y_field (cs := #[_, _]) rfl (fd33_0 _ _)) rfl rfl rfl ?_
  refine gop (y_neq rfl rfl) rfl rfl rfl ?_
  refine gops_nil ?_
  refine hN3 _ _ ?_
  refine gfrom [(1, .int _ _), (2, .pointer _), (4, .pointer _), (8, .bool _)] ⟨rfl, rfl, rfl, rfl, trivial⟩ fun σ => ?_
  refine gcond (b := _) rfl (fun hc8 => ?_) (fun hc8 => ?_)
  · 
    replace hc8 := of_decide_eq_true hc8
    have hne : treeF (fpl fs) ≠ ⟨0, 0⟩ := fun h9 => hc8 (by rw [h9])
    refine gseq fun N4 hN4 => ?_
    refine greg ?_
    refine gop (y_loads (cs := [_]) Tryz.isAgg61 Tryz.sizeOf61 rfl rfl (cells_box 0 rfl)) rfl rfl rfl ?_
    refine gop_pure (e_call (vs := [.agg #[_]]) Tryz.func45 rfl (by kernel_rfl) rfl) (fun w hM => treeValidate_any w A c fs (hR.base hM)) rfl rfl rfl ?_
    refine gop (y_field (cs := #[_, _]) rfl (fd33_0 _ _)) rfl rfl rfl ?_
    refine gop (y_move (v := .int _ _) rfl) rfl rfl rfl ?_
    refine gop_pure (e_call (vs := [.int _ _, .int _ _]) Tryz.func20 rfl (by kernel_rfl) rfl) (fun w hM => fault_any w _ _) rfl rfl rfl ?_
    refine gop_store 1 (v := .agg #[_, _]) (cs' := #[_, _]) rfl rfl Tryz.sizeOf33 rfl rfl rfl rfl (Nat.le_of_ble_eq_true rfl) rfl rfl ?_
    refine gops_nil ?_
    refine hN4 _ _ ?_
    refine gT [box b2 _, box b4 _] rfl ?_
    refine gfrom [(4, .pointer _)] ⟨rfl, trivial⟩ fun σ => ?_
    refine gret fun w1 hM => ?_
    refine ⟨_, res1 rfl (rc 1 (cs := [_, _]) hM rfl rfl Tryz.isAgg33 Tryz.sizeOf33 rfl), ?_⟩
    exact ⟨by rw [secondF, if_pos hne], hM.low⟩
  · 
    replace hc8 := Decidable.not_not.1 (of_decide_eq_false hc8)
    have heq := treeF_code hc8
    refine gskip ?_
    refine hN2 _ _ ?_
    refine gfrom [(4, .pointer _)] ⟨rfl, trivial⟩ fun σ => ?_
    refine gseq fun N5 hN5 => ?_
    refine greg ?_
    refine gop (y_build (vs := []) (cells := #[.int .i64 0, .int .i64 0]) rfl bd33_) rfl rfl rfl ?_
    refine gop_store 1 (v := .agg #[_, _]) (cs' := #[_, _]) rfl rfl Tryz.sizeOf33 rfl rfl rfl rfl (Nat.le_of_ble_eq_true rfl) rfl rfl ?_
    refine gops_nil ?_
    refine hN5 _ _ ?_
    refine gT [box b2 _, box b4 _] rfl ?_
    refine gfrom [(4, .pointer _)] ⟨rfl, trivial⟩ fun σ => ?_
    refine gret fun w1 hM => ?_
    refine ⟨_, res1 rfl (rc 1 (cs := [_, _]) hM rfl rfl Tryz.isAgg33 Tryz.sizeOf33 rfl), ?_⟩
    exact ⟨by rw [heq]; rfl, hM.low⟩
set_option maxHeartbeats 1000000 in
theorem equalStrings_any (w : World) (A B : Option Addr) (c c' : Nat) (l m : List ByteArray) (hA : Rdl w 0 1 strCells A l) (hB : Rdl w 0 1 strCells B m) (hl : l.length ≤ maxLen) :
    Calls Tryz.prog 24 #[.slice A l.length c, .slice B m.length c'] w fun e w' => e = .returned (.bool (decide (l = m))) ∧ Below w.heap.size w w' := by
  unfold maxLen at hl
  refine gcalls Tryz.func24 rfl Tryz.ntmps24 (Nat.le_of_ble_eq_true rfl) ?_
  refine gfrom [(0, .slice _ _ _), (1, .slice _ _ _)] ⟨rfl, rfl, trivial⟩ fun σ => ?_
  refine gseq fun N1 hN1 => ?_
  refine greg ?_
  refine gop (y_assign (v := .bool _) rfl) rfl rfl rfl ?_
  refine gops_nil ?_
  refine hN1 _ _ ?_
  refine gfrom [(0, .slice _ _ _), (1, .slice _ _ _)] ⟨rfl, rfl, trivial⟩ fun σ => ?_
  refine gseq fun N2 hN2 => ?_
  refine gseq fun N3 hN3 => ?_
  refine greg ?_
  refine gop (y_move (v := .slice _ _ _) rfl) rfl rfl rfl ?_
  refine gop (y_len Tryz.underlying22 rfl) rfl rfl rfl ?_
  refine gop (y_move (v := .slice _ _ _) rfl) rfl rfl rfl ?_
  refine gop (y_len Tryz.underlying22 rfl) rfl rfl rfl ?_
  refine gop (y_neq rfl rfl) rfl rfl rfl ?_
  refine gops_nil ?_
  refine hN3 _ _ ?_
  refine gfrom [(0, .slice _ _ _), (1, .slice _ _ _), (10, .bool _)] ⟨rfl, rfl, rfl, trivial⟩ fun σ => ?_
  refine gcond (b := _) rfl (fun hc10 => ?_) (fun hc10 => ?_)
  · 
    replace hc10 := of_decide_eq_true hc10
    refine gseq fun N4 hN4 => ?_
    refine greg ?_
    refine gop (y_assign (v := .bool _) rfl) rfl rfl rfl ?_
    refine gops_nil ?_
    refine hN4 _ _ ?_
    refine gfrom [(4, .bool _)] ⟨rfl, trivial⟩ fun σ => ?_
    refine gret fun w1 hM => ?_
    refine ⟨_, res1 rfl (rt (v := .bool _) rfl), ?_⟩
    exact ⟨by rw [decide_eq_false (fun e => by subst e; omega)], hM.low⟩
  · 
    replace hc10 := Decidable.not_not.1 (of_decide_eq_false hc10)
    refine gskip ?_
    refine hN2 _ _ ?_
    refine gfrom [(0, .slice _ _ _), (1, .slice _ _ _)] ⟨rfl, rfl, trivial⟩ fun σ => ?_
    refine gseq fun N5 hN5 => ?_
    refine gseq fun N6 hN6 => ?_
    refine greg ?_
    refine gop (y_assign (v := .int _ _) rfl) rfl rfl rfl ?_
    refine gops_nil ?_
    refine hN6 _ _ ?_
    refine gfrom [(0, .slice _ _ _), (1, .slice _ _ _), (5, .int _ _)] ⟨rfl, rfl, rfl, trivial⟩ fun σ => ?_
    refine gblock ?_
    refine gfrom2 [(5, .int _ _)] [(0, .slice _ _ _), (1, .slice _ _ _)] ⟨rfl, trivial⟩ ⟨rfl, rfl, trivial⟩ fun σ => ?_
    refine gloop2 (G := Nat) (fun k => k ≤ l.length ∧ l.length = m.length ∧ l.take k = m.take k) (fun k => l.length - k) (fun k => [(5, .int .i64 (k : Int))]) (fun k => []) (0) ?h0 ⟨rfl, trivial⟩ ⟨rfl, rfl, trivial⟩ rfl ?round
    case h0 => exact ⟨Nat.zero_le _, by omega, by simp⟩
    case round =>
      intro k hφ σ
      obtain ⟨hk, hlm, htk⟩ := hφ
      refine gseq fun N7 hN7 => ?_
      refine gseq fun N8 hN8 => ?_
      refine greg ?_
      refine gop (y_move (v := .int _ _) rfl) rfl rfl rfl ?_
      refine gop (y_move (v := .slice _ _ _) rfl) rfl rfl rfl ?_
      refine gop (y_len Tryz.underlying22 rfl) rfl rfl rfl ?_
      refine gop (y_lss rfl rfl) rfl rfl rfl ?_
      refine gops_nil ?_
      refine hN8 _ _ ?_
      refine gfrom [(0, .slice _ _ _), (1, .slice _ _ _), (5, .int _ _), (14, .bool _)] ⟨rfl, rfl, rfl, rfl, trivial⟩ fun σ => ?_
      refine gcond (b := _) rfl (fun hc14 => ?_) (fun hc14 => ?_)
      · 
        replace hc14 := of_decide_eq_true hc14
        have hk1 : k < l.length := by omega
        obtain ⟨ad, rfl, -, hca⟩ := hA.at_ hk1
        obtain ⟨ad', rfl, -, hcb⟩ := hB.at_ (k := k) (by omega)
        refine gskip ?_
        refine hN7 _ _ ?_
        refine gfrom [(0, .slice _ _ _), (1, .slice _ _ _), (5, .int _ _)] ⟨rfl, rfl, rfl, trivial⟩ fun σ => ?_
        refine gseq fun N9 hN9 => ?_
        refine gblock ?_
        refine gseq fun N10 hN10 => ?_
        refine greg_q (by kernel_rfl) (by kernel_rfl) ?_
        refine gq (y_move (v := .slice _ _ _) rfl) rfl rfl rfl ?_
        refine gq (y_move (v := .int _ _) rfl) rfl rfl rfl ?_
        refine gq (y_indexAddr Tryz.underlying22 Tryz.sizeOf9 rfl rfl rfl (by omega) (by omega)) rfl rfl rfl ?_
        refine gq (y_load Tryz.isAgg9 rfl (cell_base (hca 0 _ rfl))) rfl rfl rfl ?_
        refine gq (y_move (v := .slice _ _ _) rfl) rfl rfl rfl ?_
        refine gq (y_move (v := .int _ _) rfl) rfl rfl rfl ?_
        refine gq (y_indexAddr Tryz.underlying22 Tryz.sizeOf9 rfl rfl rfl (by omega) (by omega)) rfl rfl rfl ?_
        refine gq (y_load Tryz.isAgg9 rfl (cell_base (hcb 0 _ rfl))) rfl rfl rfl ?_
        refine gq (y_neqs rfl rfl) rfl rfl rfl ?_
        refine gqs_nil ?_
        refine hN10 _ _ ?_
        refine gfrom [(0, .slice _ _ _), (1, .slice _ _ _), (5, .int _ _), (25, .bool _)] ⟨rfl, rfl, rfl, rfl, trivial⟩ fun σ => ?_
        refine gcond (b := _) rfl (fun hc25 => ?_) (fun hc25 => ?_)
        · 
          replace hc25 := strEq_ne2 hc25
          refine gseq fun N11 hN11 => ?_
          refine greg ?_
          refine gop (y_assign (v := .bool _) rfl) rfl rfl rfl ?_
          refine gops_nil ?_
          refine hN11 _ _ ?_
          refine gfrom [(4, .bool _)] ⟨rfl, trivial⟩ fun σ => ?_
          refine gret fun w1 hM => ?_
          refine ⟨_, res1 rfl (rt (v := .bool _) rfl), ?_⟩
          exact ⟨by rw [decide_eq_false (ne_of_at hk1 (by omega) hc25)], hM.low⟩
        · 
          replace hc25 := sb_eq_t (by simpa using hc25)
          refine gskip ?_
          refine hN9 _ _ ?_
          refine gfrom [(0, .slice _ _ _), (1, .slice _ _ _), (5, .int _ _)] ⟨rfl, rfl, rfl, trivial⟩ fun σ => ?_
          refine greg ?_
          refine gop (y_move (v := .int _ _) rfl) rfl rfl rfl ?_
          refine gop (y_add rfl rfl ⟨by omega, by omega⟩) rfl rfl rfl ?_
          refine gop (y_assign (v := .int _ _) rfl) rfl rfl rfl ?_
          refine gops_nil ?_
          refine gnext2 (k + 1) (by omega) (⟨by omega, hlm, take_next l m k (by omega) (by omega) htk hc25⟩) ⟨rfl, trivial⟩ ⟨rfl, rfl, trivial⟩ ⟨_, rfl⟩
      · 
        replace hc14 := of_decide_eq_false hc14
        refine gexit ?_
        refine hN5 _ _ ?_
        refine gfrom [] trivial fun σ => ?_
        refine gseq fun N12 hN12 => ?_
        refine greg ?_
        refine gop (y_assign (v := .bool _) rfl) rfl rfl rfl ?_
        refine gops_nil ?_
        refine hN12 _ _ ?_
        refine gfrom [(4, .bool _)] ⟨rfl, trivial⟩ fun σ => ?_
        refine gret fun w1 hM => ?_
        refine ⟨_, res1 rfl (rt (v := .bool _) rfl), ?_⟩
        exact ⟨by rw [decide_eq_true (eq_of_takes hlm (by omega) htk)], hM.low⟩
end Go.Proofs.YtbkameioedmlkaaGreatDoor
namespace Go.Cf
open Go.RowKit
theorem ltS_total {a b : ByteArray} (h : ¬ ltS a b) (hne : a ≠ b) : ltS b a := by
  unfold ltS at h ⊢
  rcases List.le_iff_lt_or_eq.1 (List.not_lt.1 h) with h5 | h5
  · exact h5
  · exact absurd (sb_eq_t (beq_iff_eq.2 h5)).symm hne
def pth (a : List FileP) (i : Nat) : Option ByteArray := (a[i]?).map FileP.path
theorem pth_lt {a : List FileP} {i : Nat} (h : i < a.length) : pth a i = some a[i].path := by rw [pth, List.getElem?_eq_getElem h]; rfl
theorem pth_some {a : List FileP} {i : Nat} {x : ByteArray} (h : pth a i = some x) : ∃ h : i < a.length, a[i].path = x := by
  by_cases hi : i < a.length
  · rw [pth_lt hi] at h; exact ⟨hi, Option.some.inj h⟩
  · rw [pth, List.getElem?_eq_none (by omega)] at h; cases h
def seenTo (a : List FileP) (i : Nat) (x : ByteArray) : Prop := ∃ j, j < i ∧ pth a j = some x
def restFrom (a : List FileP) (i : Nat) (x : ByteArray) : Prop := ∃ j, i ≤ j ∧ pth a j = some x
def nxt (a : List FileP) (i : Nat) (p : ByteArray) : Nat := if pth a i = some p then i + 1 else i
theorem seen_nxt {a : List FileP} {i : Nat} {p x : ByteArray} : seenTo a (nxt a i p) x ↔ seenTo a i x ∨ (pth a i = some p ∧ x = p) := by
  unfold nxt
  split
  · rename_i h
    constructor
    · rintro ⟨j, hj, hx⟩
      rcases Nat.lt_succ_iff_lt_or_eq.1 hj with h1 | rfl
      · exact .inl ⟨j, h1, hx⟩
      · rw [h] at hx; exact .inr ⟨h, (Option.some.inj hx).symm⟩
    · rintro (⟨j, hj, hx⟩ | ⟨_, rfl⟩)
      · exact ⟨j, by omega, hx⟩
      · exact ⟨i, by omega, h⟩
  · rename_i h
    exact ⟨.inl, fun h1 => h1.elim id fun h2 => absurd h2.1 h⟩
theorem rest_nxt {a : List FileP} {i : Nat} {p x : ByteArray} (h : restFrom a (nxt a i p) x) : restFrom a i x := by
  obtain ⟨j, hj, hx⟩ := h
  refine ⟨j, ?_, hx⟩
  unfold nxt at hj
  split at hj <;> omega
theorem VTree.above {a : List FileP} (v : VTree a) {i : Nat} {p y : ByteArray} (ha : ∀ q, pth a i = some q → ¬ ltS q p) (h : restFrom a (nxt a i p) y) : ltS p y := by
  obtain ⟨j, hj, hy⟩ := h
  obtain ⟨hjl, rfl⟩ := pth_some hy
  unfold nxt at hj
  split at hj
  · rename_i h
    obtain ⟨hi, rfl⟩ := pth_some h
    exact v.mono i j (by omega) hjl
  · rename_i h
    have hi : i < a.length := by omega
    have h1 := ha _ (pth_lt hi)
    have h2 : a[i].path ≠ p := fun h3 => h (by rw [pth_lt hi, h3])
    have h4 := ltS_total h1 h2
    rcases Nat.lt_or_eq_of_le hj with h5 | rfl
    · exact ltS_trans h4 (v.mono i j h5 hjl)
    · exact h4
structure Merge (a b : List FileP) (i k : Nat) (out : List ByteArray) : Prop where
  inc : out.Pairwise ltS
  mem : ∀ x, x ∈ out ↔ (seenTo a i x ∨ seenTo b k x) ∧ diffAt a b x = true
  low : ∀ x y, seenTo a i x ∨ seenTo b k x → restFrom a i y ∨ restFrom b k y → ltS x y
  hi : i ≤ a.length
  hk : k ≤ b.length
  len : out.length ≤ i + k
theorem Merge.start (a b : List FileP) : Merge a b 0 0 [] :=
  ⟨.nil, fun x => ⟨fun h => (by cases h), fun h => h.1.elim (fun ⟨_, h, _⟩ => absurd h (Nat.not_lt_zero _)) (fun ⟨_, h, _⟩ => absurd h (Nat.not_lt_zero _))⟩, fun x y h _ => h.elim (fun ⟨_, h, _⟩ => absurd h (Nat.not_lt_zero _)) (fun ⟨_, h, _⟩ => absurd h (Nat.not_lt_zero _)), Nat.zero_le _, Nat.zero_le _, Nat.zero_le _⟩
theorem nxt_le {a : List FileP} {i : Nat} {p : ByteArray} (h : i ≤ a.length) : nxt a i p ≤ a.length := by
  unfold nxt; split
  · rename_i h1; obtain ⟨h2, _⟩ := pth_some h1; omega
  · exact h
def withD (a b : List FileP) (out : List ByteArray) (p : ByteArray) : List ByteArray := if diffAt a b p = true then out ++ [p] else out
theorem Merge.step {a b : List FileP} {i k : Nat} {out : List ByteArray} {p : ByteArray} (h : Merge a b i k out) (va : VTree a) (vb : VTree b) (hp : pth a i = some p ∨ pth b k = some p)
    (ha : ∀ q, pth a i = some q → ¬ ltS q p) (hb : ∀ q, pth b k = some q → ¬ ltS q p) : Merge a b (nxt a i p) (nxt b k p) (withD a b out p) := by
  have hs : ∀ x, (seenTo a (nxt a i p) x ∨ seenTo b (nxt b k p) x) ↔ (seenTo a i x ∨ seenTo b k x) ∨ x = p := by
    intro x
    rw [seen_nxt, seen_nxt]
    constructor
    · rintro ((h1 | h1) | (h1 | h1))
      · exact .inl (.inl h1)
      · exact .inr h1.2
      · exact .inl (.inr h1)
      · exact .inr h1.2
    · rintro ((h1 | h1) | rfl)
      · exact .inl (.inl h1)
      · exact .inr (.inl h1)
      · rcases hp with h2 | h2
        · exact .inl (.inr ⟨h2, rfl⟩)
        · exact .inr (.inr ⟨h2, rfl⟩)
  have hrest : restFrom a i p ∨ restFrom b k p := hp.imp (fun h => ⟨i, Nat.le_refl _, h⟩) (fun h => ⟨k, Nat.le_refl _, h⟩)
  refine ⟨?_, fun x => ?_, fun x y hx hy => ?_, nxt_le h.hi, nxt_le h.hk, ?_⟩
  · unfold withD
    split
    · refine List.pairwise_append.2 ⟨h.inc, List.pairwise_singleton _ _, fun x hx y hy => ?_⟩
      rw [List.mem_singleton.1 hy]
      exact h.low x p ((h.mem x).1 hx).1 hrest
    · exact h.inc
  · rw [hs]
    unfold withD
    split
    · rename_i hd
      rw [List.mem_append, List.mem_singleton, h.mem]
      constructor
      · rintro (⟨h1, h2⟩ | rfl)
        · exact ⟨.inl h1, h2⟩
        · exact ⟨.inr rfl, hd⟩
      · rintro ⟨h1 | rfl, h2⟩
        · exact .inl ⟨h1, h2⟩
        · exact .inr rfl
    · rename_i hd
      rw [h.mem]
      constructor
      · rintro ⟨h1, h2⟩; exact ⟨.inl h1, h2⟩
      · rintro ⟨h1 | rfl, h2⟩
        · exact ⟨h1, h2⟩
        · exact absurd h2 hd
  · rcases (hs x).1 hx with h1 | rfl
    · exact h.low x y h1 (hy.imp rest_nxt rest_nxt)
    · exact hy.elim (va.above ha) (vb.above hb)
  · have h9 := h.len
    have h8 : (withD a b out p).length ≤ out.length + 1 := by unfold withD; split <;> simp
    unfold nxt
    rcases hp with h2 | h2
    · rw [if_pos h2]; split <;> omega
    · rw [if_pos h2]; split <;> omega
theorem seen_all {a : List FileP} {x : ByteArray} : seenTo a a.length x ↔ ∃ f ∈ a, f.path = x := by
  constructor
  · rintro ⟨j, hj, hx⟩
    obtain ⟨h1, h2⟩ := pth_some hx
    exact ⟨_, List.getElem_mem h1, h2⟩
  · rintro ⟨f, hf, rfl⟩
    obtain ⟨j, hj, rfl⟩ := List.getElem_of_mem hf
    exact ⟨j, hj, pth_lt hj⟩
theorem Merge.done {a b : List FileP} {i k : Nat} {out : List ByteArray} (h : Merge a b i k out) (hi : ¬ i < a.length) (hk : ¬ k < b.length) : out = chgL a b := by
  have h1 := h.hi
  have h2 := h.hk
  obtain rfl : i = a.length := by omega
  obtain rfl : k = b.length := by omega
  refine inc_ext h.inc (leafS_pair _) fun x => ?_
  rw [h.mem, chgL, leafS_mem, List.mem_filter, seen_all, seen_all, List.map_append, List.mem_append, List.mem_map, List.mem_map]
def differsR (a b : List FileP) (p : ByteArray) : Bool := match findP a p, findP b p with | some f, some g => !decide (f.lines = g.lines) | none, none => false | _, _ => true
theorem differs_eq {a b : List FileP} {p : ByteArray} (h : findP a p ≠ none ∨ findP b p ≠ none) : differsR a b p = diffAt a b p := by
  unfold differsR diffAt
  cases h1 : findP a p <;> cases h2 : findP b p <;> simp_all
theorem fidx_find_neg {fs : List FileC} {p : ByteArray} (h : fidx fs p < 0) : findP (fpl fs) p = none := find_none_of (fidx_neg h)
theorem fidx_find_pos {fs : List FileC} (v : VTree (fpl fs)) {p : ByteArray} (h : ¬ fidx fs p < 0) : ∃ f, findP (fpl fs) p = some f := by
  obtain ⟨k, hk, _, hp⟩ := fidx_pos h
  exact ⟨_, find_some_of v hk hp⟩
theorem differs_1 {fs gs : List FileC} (v2 : VTree (fpl gs)) {p : ByteArray} (h : fidx fs p < 0) : differsR (fpl fs) (fpl gs) p = decide (0 ≤ fidx gs p) := by
  unfold differsR
  rw [fidx_find_neg h]
  by_cases h2 : fidx gs p < 0
  · rw [fidx_find_neg h2, decide_eq_false (by omega)]
  · obtain ⟨f, hf⟩ := fidx_find_pos v2 h2
    rw [hf, decide_eq_true (by omega)]
theorem differs_2 {fs gs : List FileC} (v : VTree (fpl fs)) {p : ByteArray} (h : ¬ fidx fs p < 0) (h2 : fidx gs p < 0) : differsR (fpl fs) (fpl gs) p = true := by
  unfold differsR
  obtain ⟨f, hf⟩ := fidx_find_pos v h
  rw [hf, fidx_find_neg h2]
theorem differs_3 {fs gs : List FileC} (v : VTree (fpl fs)) (v2 : VTree (fpl gs)) {p : ByteArray} {i j : Nat} (hi : i < fs.length) (hp : fs[i].pl.path = p) (hj : j < gs.length) (hq : gs[j].pl.path = p) :
    differsR (fpl fs) (fpl gs) p = !decide (fs[i].pl.lines = gs[j].pl.lines) := by
  rw [differsR, find_some_of v hi hp, find_some_of v2 hj hq]
theorem pth_c {fs : List FileC} {i : Nat} (h : i < fs.length) : pth (fpl fs) i = some fs[i].pl.path := by
  rw [pth_lt (by simpa using h), List.getElem_map]
theorem pth_n {fs : List FileC} {i : Nat} (h : ¬ i < fs.length) : pth (fpl fs) i = none := by
  rw [pth, List.getElem?_eq_none (by simpa using h)]; rfl
structure Pick (a b : List FileP) (i k : Nat) (p : ByteArray) : Prop where
  one : pth a i = some p ∨ pth b k = some p
  ha : ∀ q, pth a i = some q → ¬ ltS q p
  hb : ∀ q, pth b k = some q → ¬ ltS q p
theorem some_irrefl {o : Option ByteArray} {p q : ByteArray} (h : o = some p) (h2 : o = some q) : ¬ ltS q p := by
  rw [h] at h2; rw [Option.some.inj h2]; exact ltS_irrefl _
theorem pick_a {fs gs : List FileC} {i k : Nat} (hi : i < fs.length) (h : ∀ hk : k < gs.length, ¬ ltS gs[k].pl.path fs[i].pl.path) : Pick (fpl fs) (fpl gs) i k fs[i].pl.path :=
  ⟨.inl (pth_c hi), fun q hq => some_irrefl (pth_c hi) hq, fun q hq => by
    by_cases hk : k < gs.length
    · rw [pth_c hk] at hq; rw [← Option.some.inj hq]; exact h hk
    · rw [pth_n hk] at hq; cases hq⟩
theorem pick_b {fs gs : List FileC} {i k : Nat} (hk : k < gs.length) (h : ∀ hi : i < fs.length, ¬ ltS fs[i].pl.path gs[k].pl.path) : Pick (fpl fs) (fpl gs) i k gs[k].pl.path :=
  ⟨.inr (pth_c hk), fun q hq => by
    by_cases hi : i < fs.length
    · rw [pth_c hi] at hq; rw [← Option.some.inj hq]; exact h hi
    · rw [pth_n hi] at hq; exact absurd hq (by simp), fun q hq => some_irrefl (pth_c hk) hq⟩
theorem le_nlt {a b : ByteArray} (h : (Op.bytesLess a.toList b.toList || a.toList == b.toList) = true) : ¬ ltS b a := leS_t rfl h
theorem nle_nlt {a b : ByteArray} (h : (Op.bytesLess a.toList b.toList || a.toList == b.toList) = false) : ¬ ltS a b := fun h9 => by
  have h1 := leS_f (a := a) (b := b) (p := b) rfl h
  exact ltS_irrefl _ (ltS_trans h9 h1)
theorem Pick.diff {a b : List FileP} {i k : Nat} {p : ByteArray} (h : Pick a b i k p) : differsR a b p = diffAt a b p := by
  have hf : ∀ {l : List FileP} {j : Nat}, pth l j = some p → findP l p ≠ none := fun {l j} h1 h2 => by
    obtain ⟨hj, he⟩ := pth_some h1
    exact findP_none.1 h2 _ (List.getElem_mem hj) he
  exact differs_eq (h.one.imp hf hf)
theorem nxt_yes {fs : List FileC} {i : Nat} {p : ByteArray} (hi : i < fs.length) (h : fs[i].pl.path = p) : i + 1 = nxt (fpl fs) i p := by rw [nxt, if_pos (by rw [pth_c hi, h])]
theorem nxt_no1 {fs : List FileC} {i : Nat} {p : ByteArray} (hi : i < fs.length) (h : fs[i].pl.path ≠ p) : i = nxt (fpl fs) i p := by rw [nxt, if_neg (by rw [pth_c hi]; exact fun h9 => h (Option.some.inj h9))]
theorem nxt_no2 {fs : List FileC} {i : Nat} {p : ByteArray} (hi : ¬ i < fs.length) : i = nxt (fpl fs) i p := by rw [nxt, if_neg (by rw [pth_n hi]; exact fun h9 => by cases h9)]
theorem Pick.more {a b : List FileP} {i k : Nat} {p : ByteArray} (h : Pick a b i k p) : i + k < nxt a i p + nxt b k p := by
  unfold nxt
  rcases h.one with h2 | h2
  · rw [if_pos h2]; split <;> omega
  · rw [if_pos h2]; split <;> omega
section
variable {rs : List Rule} {l : List Appr} {a b : List FileP}
theorem vf_1 (h : (apprF l).code = 0) : secondF (treeF b) (-2) = validF l b := by rw [validF, if_neg (fun h9 => h9 (apprF_code h))]
theorem vf_2 (h : ¬ (apprF l).code = 0) : apprF l = validF l b := by rw [validF, if_pos (fun h9 => h (by rw [h9]))]
theorem mf_t (hv : validF l b = ⟨0, 0⟩) (h : (secondF (treeF a) (-3)).code = 0) (h2 : ¬ (rulesF rs).code = 0) : (⟨(rulesF rs).code, -4⟩ : Fault) = missF rs l a b := by
  rw [missF_3 hv (sec_eq _ treeF_code h).1, secondF, if_pos (fun h9 => h2 (by rw [h9]))]
theorem mf_f (hv : validF l b = ⟨0, 0⟩) (h : (secondF (treeF a) (-3)).code = 0) (h2 : (rulesF rs).code = 0) : secondF (treeF a) (-3) = missF rs l a b := by
  rw [missF_3 hv (sec_eq _ treeF_code h).1, rulesF_code h2, (sec_eq _ treeF_code h).1]; rfl
theorem mf_n (hv : validF l b = ⟨0, 0⟩) (h : ¬ (secondF (treeF a) (-3)).code = 0) : secondF (treeF a) (-3) = missF rs l a b := (missF_2 hv (fun h9 => h (by rw [h9]))).symm
theorem validV_get2 (h : validF l b = ⟨0, 0⟩) {j : Nat} (hj : j < l.length) : (validV l b)[j]? = some (decide (descP b l[j].path = l[j].dig)) := by
  rw [validV_get h hj]
  congr 1
  exact decide_eq_decide.2 ⟨Eq.symm, Eq.symm⟩
end
theorem meets_one (own : List Int) (u : Int) : meetsB own [u] = hasI own u := by
  unfold meetsB hasI
  exact List.any_congr rfl fun x => by
    rw [List.any_cons, List.any_nil, Bool.or_false]
    exact decide_eq_decide.2 ⟨Eq.symm, Eq.symm⟩
end Go.Cf
