/- Own walking frame, part L: empty literals, cells of rows. Program independent. -/
import Derived.Test.YtijpaljdclhehaaDoorLibK
namespace Go.Cf
open Go.RowKit
section
variable {P : Program} {n : Fr} {w0 : World} {N : Env → World → Prop} {ρ : Env} {T : List Reg} {full : Array Oper} {rest : List Oper} {d : Nat} {ty t : TypeId} {pos : String} {af : Array Edge}
theorem gop_bslice0 {α : Type} (f : α → List Value) {e : TypeId} {s : Nat} (ht : P.underlying t = some (.slice e)) (hs : ∀ w, (sizeOf e).run P w = .ok s w) (hlt : Nat.blt d n.n = true)
    (h : ∀ b, w0.heap.size ≤ b → gops P n w0 full rest N (upd ρ d (.slice (some ⟨b, 0, none⟩) 0 0)) (T ++ [rowl f w0.heap.size e s (.slice (some ⟨b, 0, none⟩) 0 0) []])) :
    gops P n w0 full (⟨some d, .buildSlice t 0 #[], ty, pos, af, none⟩ :: rest) N ρ T :=
  gop_w (fun w hM => by
    refine ⟨.slice (some ⟨w.heap.size, 0, none⟩) 0 0, w.alloc (.cells #[] e), ?_, h w.heap.size hM.low.size _ (hM.add ((Below.refl _ _).alloc (Nat.le_refl _) _) ?_ ?_)⟩
    · simp only [execOp, Instr.buildSlice, Sem.run_bind, run_underlying ht, Result.andThen_ok, hs, Nat.zero_mul]
      simp [Instr.fill, newRow]
      congr 2
      exact Array.eq_empty_of_size_eq_zero (by simp)
    · refine ⟨by simp, .inr ⟨w.heap.size, 0, #[], rfl, hM.low.size, heap_alloc_new w _, Nat.le_refl _, by unfold maxLen; omega, by simp, by simp⟩⟩
    · intro b hb
      have hb' : some w.heap.size = some b := hb
      injection hb' with hb'
      subst hb'
      simp) rfl rfl hlt
theorem cells_rowl (i : Nat) {α : Type} {f : α → List Value} {l : List α} {size base g nn cap k : Nat} {e : TypeId} {a : α} (hi : T[i]? = some (rowl f base e size (.slice (some ⟨g, 0, none⟩) nn cap) l)) (hn : nn = l.length) (hf : ∀ x, (f x).length = size) (hk : l[k]? = some a) :
    ∀ j u, (f a)[j]? = some u → Cell w0 T ((⟨g, 0, none⟩ : Addr).add (k * size + j)) u := fun j u hu w hM => by
  subst hn
  have h := hM.own i hi
  exact h.cells (g := g) rfl _ u (flat_at hf l k a hk j u hu)
theorem cells_rowp (i : Nat) {α : Type} {f : α → List Value} {l : List α} {size base g nn cap k : Nat} {e : TypeId} {a : α} (hi : T[i]? = some (rowl f base e size (.slice (some ⟨g, 0, none⟩) nn cap) l)) (hn : nn = l.length) (hf : ∀ x, (f x).length = size) (hk : l[k]? = some a) :
    ∀ j u, (f a)[j]? = some u → Cell w0 T (((⟨g, 0, none⟩ : Addr).add (k * size)).add j) u := fun j u hu => by
  rw [add_add]; exact cells_rowl i hi hn hf hk j u hu
/-- a row that stands from a later block on stands from an earlier one on -/
theorem own_lower {w : World} {base base' : Nat} {e : TypeId} {size : Nat} {v : Value} {m : Nat} {xs : List Value} (h : w.ownsRow base e size v m xs) (hb : base' ≤ base) : w.ownsRow base' e size v m xs := by
  refine ⟨h.1, ?_⟩
  rcases h.2 with h | ⟨g, cap, cur, hv, h1, h2⟩
  · exact .inl h
  · exact .inr ⟨g, cap, cur, hv, Nat.le_trans hb h1, h2⟩
theorem weak_lower (i : Nat) {α : Type} {f : α → List Value} {l : List α} {size base : Nat} {e : TypeId} {v : Value} (hi : T[i]? = some (rowl f base e size v l)) (hb : w0.heap.size ≤ base) : Weak w0 T (T.set i (rowl f w0.heap.size e size v l)) := fun _ hM =>
  hM.upd hi (Chg.of_below (Below.refl _ _)) (own_lower (hM.own i hi) hb) (fun b h => ⟨.inl h, hM.lt _ (List.mem_of_getElem? hi) b h⟩)
/-- what a row reads as, wherever it is held -/
theorem row_form {α : Type} {f : α → List Value} {l : List α} {size base : Nat} {e : TypeId} {v : Value} {w : World} (h : (rowl f base e size v l).ok w) : ∃ A c, v = .slice A l.length c ∧ l.length ≤ c ∧ c ≤ maxLen ∧ (A = none → c = 0) := by
  have h' : w.ownsRow base e size v l.length (l.flatMap f) := h
  rcases h'.2 with ⟨h1, h2⟩ | ⟨g, cap, cur, hv, _, _, h4, h5, _⟩
  · exact ⟨none, 0, by rw [h1, h2], by omega, by unfold maxLen; omega, fun _ => rfl⟩
  · exact ⟨_, _, hv, h4, h5, fun h => by cases h⟩
theorem row_rdl {α : Type} {f : α → List Value} {l : List α} {size base n c : Nat} {e : TypeId} {A : Option Addr} {w : World} (hf : ∀ x, (f x).length = size) (h : (rowl f base e size (.slice A n c) l).ok w) : Rdl w base size f A l := Rdl.of_own hf h
/-- all that stands behind the first m entries goes into entry i -/
theorem weak_all (m i : Nat) {r : Reg} (hi : (T.take m)[i]? = some r) : Weak w0 T ((T.take m).set i (both r (all_ (T.drop m)))) := fun w hM => by
  have h1 : Mem w0 (T.take m ++ T.drop m) w := by rw [List.take_append_drop]; exact hM
  exact (Mem.pack h1).1.fold hi
theorem Mem.dropTo {w : World} {T' : List Reg} (m : Nat) (hM : Mem w0 T w) (h : T.drop m = T') : Mem w0 T' w := by subst h; exact hM.sub (List.drop_sublist _ _)
theorem Mem.front {w : World} (i : Nat) {r : Reg} (hM : Mem w0 T w) (hi : T[i]? = some r) : Mem w0 (r :: T.eraseIdx i) w := by
  refine hM.perm ?_
  clear hM
  induction T generalizing i with
  | nil => simp at hi
  | cons a T ih =>
    cases i with
    | zero => simp at hi; subst hi; exact List.Perm.refl _
    | succ i => simp at hi; exact (List.Perm.cons a (ih i hi)).trans (List.Perm.swap _ _ _)
theorem Mem.putback {w : World} (i : Nat) {r : Reg} {E : List Reg} (hM : Mem w0 (r :: E) w) (hi : Nat.ble i E.length = true) : Mem w0 (E.insertIdx i r) w :=
  hM.perm (List.perm_insertIdx r E (Nat.le_of_ble_eq_true hi)).symm
theorem perm_front {T : List Reg} {i : Nat} {r : Reg} (hi : T[i]? = some r) : List.Perm T (r :: T.eraseIdx i) := by
  induction T generalizing i with
  | nil => simp at hi
  | cons a T ih =>
    cases i with
    | zero => simp at hi; subst hi; exact List.Perm.refl _
    | succ i => simp at hi; exact (List.Perm.cons a (ih hi)).trans (List.Perm.swap _ _ _)
theorem perm_front2 {T : List Reg} {i j : Nat} {r s : Reg} (hij : i < j) (hi : T[i]? = some r) (hj : T[j]? = some s) : List.Perm T (r :: s :: (T.eraseIdx j).eraseIdx i) :=
  ((perm_front hj).trans (List.Perm.cons s (perm_front (by rw [List.getElem?_eraseIdx_of_lt hij]; exact hi)))).trans (List.Perm.swap _ _ _)
theorem erase_set2 {T : List Reg} {i j : Nat} {r s : Reg} (hij : i < j) : (((T.set i r).set j s).eraseIdx j).eraseIdx i = (T.eraseIdx j).eraseIdx i := by
  rw [List.eraseIdx_set_eq, List.eraseIdx_set_gt hij, List.eraseIdx_set_eq]
theorem mem_eraseIdx {T : List Reg} {i m : Nat} {q : Reg} (hm : T[m]? = some q) (h : m ≠ i) : q ∈ T.eraseIdx i := by
  rcases Nat.lt_or_ge m i with h1 | h1
  · exact List.mem_of_getElem? (i := m) (by rw [List.getElem?_eraseIdx_of_lt h1]; exact hm)
  · refine List.mem_of_getElem? (i := m - 1) ?_
    rw [List.getElem?_eraseIdx_of_ge (by omega), show m - 1 + 1 = m by omega]; exact hm
theorem Mem.focus1 {w : World} (i : Nat) {r : Reg} (hM : Mem w0 T w) (hi : T[i]? = some r) : ∃ fr, Mem w0 [r, fr] w ∧ (∀ m q, T[m]? = some q → m ≠ i → ∀ w1, fr.ok w1 → q.ok w1) ∧ ∀ r' G w', Mem w0 (r' :: fr :: G) w' → Mem w0 (T.set i r' ++ G) w' := by
  have hlt : i < T.length := (List.getElem?_eq_some_iff.1 hi).1
  obtain ⟨h1, h2⟩ := Mem.pack (F := [r]) (hM.perm (perm_front hi))
  refine ⟨_, h1, fun m q hm hne w1 ho => (all_ok _ w1).1 ho q (mem_eraseIdx hm hne), fun r' G w' h' => (h2 [r'] G w' h').perm ?_⟩
  have := perm_front (T := T.set i r') (i := i) (r := r') (by rw [List.getElem?_set_self hlt])
  rw [List.eraseIdx_set_eq] at this
  exact (this.append_right G).symm
theorem Mem.focus2 {w : World} (i j : Nat) {r s : Reg} (hM : Mem w0 T w) (hij : Nat.blt i j = true) (hi : T[i]? = some r) (hj : T[j]? = some s) : ∃ fr, Mem w0 [r, s, fr] w ∧ (∀ m q, T[m]? = some q → m ≠ i → m ≠ j → ∀ w1, fr.ok w1 → q.ok w1) ∧ ∀ r' s' G w', Mem w0 (r' :: s' :: fr :: G) w' → Mem w0 ((T.set i r').set j s' ++ G) w' := by
  have hij' : i < j := Nat.le_of_ble_eq_true hij
  have hlt : j < T.length := (List.getElem?_eq_some_iff.1 hj).1
  obtain ⟨h1, h2⟩ := Mem.pack (F := [r, s]) (hM.perm (perm_front2 hij' hi hj))
  refine ⟨_, h1, fun m q hm hne hne' w1 ho => (all_ok _ w1).1 ho q ?_, fun r' s' G w' h' => (h2 [r', s'] G w' h').perm ?_⟩
  · rcases Nat.lt_or_ge m j with h3 | h3
    · exact mem_eraseIdx (m := m) (by rw [List.getElem?_eraseIdx_of_lt h3]; exact hm) hne
    · refine mem_eraseIdx (m := m - 1) ?_ (by omega)
      rw [List.getElem?_eraseIdx_of_ge (by omega), show m - 1 + 1 = m by omega]; exact hm
  · have := perm_front2 (T := (T.set i r').set j s') (r := r') (s := s') hij' (by rw [List.getElem?_set_ne (by omega), List.getElem?_set_self (by omega)]) (by rw [List.getElem?_set_self (by simpa using hlt)])
    rw [erase_set2 hij'] at this
    exact (this.append_right G).symm
variable {o : Oper}
/-- a callee that changes one region that the caller knows -/
theorem gop_does1 {f : FuncId} {args : Array Value} (i : Nat) (Ψ : Value → Reg → List Reg → Prop) (he : ∀ w, (execOp (ev ρ) o).run P w = .ok (.enter f args) w) {r : Reg} (hi : T[i]? = some r)
    (hc : ∀ w fr, (∀ m q, T[m]? = some q → m ≠ i → ∀ w1, fr.ok w1 → q.ok w1) → Mem w0 [r, fr] w → Calls P f args w (fun e w' => ∃ v r' G, e = .returned v ∧ Ψ v r' G ∧ Mem w0 (r' :: fr :: G) w'))
    (hg : o.guard = none) (hd : o.dst = some d) (hlt : Nat.blt d n.n = true)
    (h : ∀ v r' G, Ψ v r' G → gops P n w0 full rest N (upd ρ d v) (T.set i r' ++ G)) : gops P n w0 full (o :: rest) N ρ T :=
  gop_call he (fun w hM => by
    obtain ⟨fr, h1, h2, h3⟩ := hM.focus1 i hi
    exact (hc w fr h2 h1).mono fun _ w' ⟨v, r', G, he, hΨ, hM'⟩ => ⟨v, he, h v r' G hΨ w' (h3 r' G w' hM')⟩) hg hd hlt
/-- .. two regions -/
theorem gop_does2 {f : FuncId} {args : Array Value} (i j : Nat) (Ψ : Value → Reg → Reg → List Reg → Prop) (he : ∀ w, (execOp (ev ρ) o).run P w = .ok (.enter f args) w) {r s : Reg} (hij : Nat.blt i j = true) (hi : T[i]? = some r) (hj : T[j]? = some s)
    (hc : ∀ w fr, (∀ m q, T[m]? = some q → m ≠ i → m ≠ j → ∀ w1, fr.ok w1 → q.ok w1) → Mem w0 [r, s, fr] w → Calls P f args w (fun e w' => ∃ v r' s' G, e = .returned v ∧ Ψ v r' s' G ∧ Mem w0 (r' :: s' :: fr :: G) w'))
    (hg : o.guard = none) (hd : o.dst = some d) (hlt : Nat.blt d n.n = true)
    (h : ∀ v r' s' G, Ψ v r' s' G → gops P n w0 full rest N (upd ρ d v) ((T.set i r').set j s' ++ G)) : gops P n w0 full (o :: rest) N ρ T :=
  gop_call he (fun w hM => by
    obtain ⟨fr, h1, h2, h3⟩ := hM.focus2 i j hij hi hj
    exact (hc w fr h2 h1).mono fun _ w' ⟨v, r', s', G, he, hΨ, hM'⟩ => ⟨v, he, h v r' s' G hΨ w' (h3 r' s' G w' hM')⟩) hg hd hlt
end
end Go.Cf
namespace Go.Cf
open Go.RowKit
theorem cut_nil {A : Option Addr} {c i : Nat} {f : Addr → Addr} (hA : A = none → c = 0) (h : (if c = i then A else A.map f) = none) : c - i = 0 := by
  by_cases h1 : c = i
  · omega
  · rw [if_neg h1] at h
    have := hA (by cases A <;> simp_all)
    omega
section
variable {w0 : World} {T : List Reg}
theorem weak_emp (i : Nat) {r : Reg} (hi : T[i]? = some r) : Weak w0 T (T.set i emp) := fun _ hM =>
  hM.upd hi (Chg.of_below (Below.refl _ _)) trivial (fun _ h => h.elim)
end
end Go.Cf
namespace Go.Cf
section
variable {P : Program} {w0 : World} {T : List Reg} {ρ : Env} {dst : Option Tmp} {ty : TypeId} {pos : String} {af : Array Edge} {gd : Option (Nat × Bool)} {x y : Operand} {t yt e : TypeId}
theorem run_equalIn_ptr_nil (w : World) (d : Nat) (p : Option Addr) (h : P.underlying t = some (.pointer e)) : (Op.equalIn (d + 1) t (.pointer p) (.pointer none)).run P w = .ok p.isNone w := by
  cases p <;> simp [Op.equalIn, run_underlying h]
theorem run_equal_ptr_nil (w : World) (p : Option Addr) (h : P.underlying t = some (.pointer e)) : (Op.equal t (.pointer p) (.pointer none)).run P w = .ok p.isNone w := run_equalIn_ptr_nil w 9999 p h
theorem y_eqlptr {p : Option Addr} (ht : P.underlying t = some (.pointer e)) (hx : ev ρ x = .pointer p) (hy : ev ρ y = .pointer none) : Yield P w0 T ρ ⟨dst, .binOp .eql t x y yt, ty, pos, af, gd⟩ (.bool p.isNone) := fun w _ => by
  simp only [execOp, go_sem, hx, hy]; simp [binOp, run_equal_ptr_nil w p ht]
theorem y_neqptr {p : Option Addr} (ht : P.underlying t = some (.pointer e)) (hx : ev ρ x = .pointer p) (hy : ev ρ y = .pointer none) : Yield P w0 T ρ ⟨dst, .binOp .neq t x y yt, ty, pos, af, gd⟩ (.bool (!p.isNone)) := fun w _ => by
  simp only [execOp, go_sem, hx, hy]; simp [binOp, run_equal_ptr_nil w p ht]
end
end Go.Cf
