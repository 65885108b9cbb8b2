/- Own walking frame, part F: slices of the call's own, append, make, calls, regions that draw and write. Program independent. -/
import Derived.Test.YtijpaljdclhehaaDoorLibE
namespace Go.Cf
open Go.RowKit

/-- a slice of the call's own, as a list of elements -/
def rowl {α : Type} (f : α → List Value) (base : Nat) (e : TypeId) (size : Nat) (v : Value) (l : List α) : Reg := row base e size v l.length (l.flatMap f)
/-- the source of an append: m elements -/
def Src (w : World) (size : Nat) (A : Option Addr) (m : Nat) (news : List Value) : Prop :=
  news.length = m * size ∧ (0 < m → ∃ ad, A = some ad ∧ ∀ j u, news[j]? = some u → w.cell? (ad.add j) = some u)
def Wide {α : Type} (f : α → List Value) (size : Nat) : Prop := ∀ x, (f x).length = size ∧ ∀ u ∈ f x, u.oneCell' = true

theorem flat_len {α : Type} {f : α → List Value} {size : Nat} (hf : ∀ x, (f x).length = size) : ∀ l : List α, (l.flatMap f).length = l.length * size
  | [] => by simp
  | x :: l => by simp only [List.flatMap_cons, List.length_append, List.length_cons, flat_len hf l, hf x, Nat.add_mul]; omega
theorem flat_at {α : Type} {f : α → List Value} {size : Nat} (hf : ∀ x, (f x).length = size) : ∀ (l : List α) (k : Nat) (x : α), l[k]? = some x → ∀ j u, (f x)[j]? = some u → (l.flatMap f)[k * size + j]? = some u
  | [], _, _, h, _, _, _ => by simp at h
  | y :: l, 0, x, h, j, u, hu => by
    simp at h; subst h
    rw [List.flatMap_cons, Nat.zero_mul, Nat.zero_add, List.getElem?_append_left]
    · exact hu
    · rcases Nat.lt_or_ge j (f y).length with h1 | h1
      · exact h1
      · rw [List.getElem?_eq_none h1] at hu; cases hu
  | y :: l, k + 1, x, h, j, u, hu => by
    simp at h
    rw [List.flatMap_cons, List.getElem?_append_right (by rw [hf]; rw [Nat.add_mul]; omega), hf]
    have := flat_at hf l k x h j u hu
    rw [← this]; congr 1; rw [Nat.add_mul]; omega
theorem flat_inv {α : Type} {f : α → List Value} {size : Nat} (hf : ∀ x, (f x).length = size) : ∀ (l : List α) (i : Nat) (u : Value), (l.flatMap f)[i]? = some u → 0 < size ∧ ∃ k x j, l[k]? = some x ∧ (f x)[j]? = some u ∧ i = k * size + j
  | [], i, u, h => by simp at h
  | y :: l, i, u, h => by
    rw [List.flatMap_cons] at h
    rcases Nat.lt_or_ge i (f y).length with h1 | h1
    · rw [List.getElem?_append_left h1] at h
      exact ⟨by rw [← hf y]; omega, 0, y, i, rfl, h, by simp⟩
    · rw [List.getElem?_append_right h1, hf] at h
      obtain ⟨hp, k, x, j, hk, hu, he⟩ := flat_inv hf l _ u h
      rw [hf] at h1
      exact ⟨hp, k + 1, x, j, by simpa using hk, hu, by rw [Nat.add_mul]; omega⟩

theorem Rdl.src {α : Type} {w : World} {lo size : Nat} {f : α → List Value} {A : Option Addr} {l : List α} (h : Rdl w lo size f A l) (hf : ∀ x, (f x).length = size) : Src w size A l.length (l.flatMap f) :=
  ⟨flat_len hf l, fun hn => by
    obtain ⟨ad, e, _, hc⟩ := h hn
    refine ⟨ad, e, fun i u hu => ?_⟩
    obtain ⟨_, k, x, j, hk, hj, rfl⟩ := flat_inv hf l i u hu
    exact hc k x hk j u hj⟩
theorem Rdl.of_own {α : Type} {w : World} {base size n c : Nat} {e : TypeId} {f : α → List Value} {A : Option Addr} {l : List α} (hf : ∀ x, (f x).length = size) (h : w.ownsRow base e size (.slice A n c) l.length (l.flatMap f)) : Rdl w base size f A l := fun hn => by
  rcases h.2 with ⟨_, h2⟩ | ⟨g, cap, cur, hv, hb, hw⟩
  · omega
  · simp only [Value.slice.injEq] at hv
    obtain ⟨rfl, rfl, rfl⟩ := hv
    refine ⟨⟨g, 0, none⟩, rfl, hb, fun k x hx j u hu => ?_⟩
    exact h.cells (g := g) rfl _ u (flat_at hf l k x hx j u hu)
theorem own_form {w : World} {base size n : Nat} {e : TypeId} {v : Value} {xs : List Value} (h : w.ownsRow base e size v n xs) : ∃ A c, v = .slice A n c ∧ n ≤ c ∧ c ≤ maxLen := by
  rcases h.2 with ⟨rfl, rfl⟩ | ⟨g, cap, cur, rfl, _, _, h4, h5, _⟩
  · exact ⟨none, 0, rfl, Nat.le_refl _, by unfold maxLen; omega⟩
  · exact ⟨_, _, rfl, h4, h5⟩
theorem Mem.own {α : Type} {w0 w : World} {T : List Reg} (i : Nat) {base size : Nat} {e : TypeId} {f : α → List Value} {v : Value} {l : List α} (hM : Mem w0 T w) (hi : T[i]? = some (rowl f base e size v l)) : w.ownsRow base e size v l.length (l.flatMap f) :=
  hM.ok _ (List.mem_of_getElem? hi)
/-- new memory that holds a list -/
def NewL {α : Type} (size : Nat) (f : α → List Value) (l : List α) (lo : Nat) (w : World) (v : Value) : Prop := ∃ A c, v = .slice A l.length c ∧ l.length ≤ c ∧ c ≤ maxLen ∧ Rdl w lo size f A l
theorem Mem.newL {α : Type} {w0 w : World} {T : List Reg} (i : Nat) {base size : Nat} {e : TypeId} {f : α → List Value} {v : Value} {l : List α} (hM : Mem w0 T w) (hi : T[i]? = some (rowl f base e size v l)) (hf : ∀ x, (f x).length = size) : NewL size f l base w v := by
  have h := hM.own i hi
  obtain ⟨A, c, rfl, h1, h2⟩ := own_form h
  exact ⟨A, c, rfl, h1, h2, Rdl.of_own hf h⟩
theorem newL_nil {α : Type} {size : Nat} {f : α → List Value} {lo : Nat} {w : World} : NewL size f ([] : List α) lo w (.slice none 0 0) := ⟨none, 0, rfl, Nat.le_refl _, by unfold maxLen; omega, Rdl.nil⟩

section
variable {P : Program} {n : Fr} {w0 : World} {N : Env → World → Prop} {X : Nat → Env → World → Prop} {R : Env → World → Prop} {ρ : Env} {T : List Reg} {full : Array Oper} {rest : List Oper} {d : Nat} {ty : TypeId} {pos : String} {af : Array Edge} {x y : Operand} {v : Value} {t : TypeId}

theorem mem_nilrow {α : Type} (f : α → List Value) (e : TypeId) (size : Nat) {w : World} (hM : Mem w0 T w) : Mem w0 (T ++ [rowl f w0.heap.size e size (.slice none 0 0) []]) w :=
  hM.add (Below.refl _ _) (World.ownsRow_nil w _ e size) (fun b hb => by cases hb)
/-- a ghost step: a nil slice is a row of the call's own -/
theorem gnilrow {α : Type} (f : α → List Value) (e : TypeId) (size : Nat) {c : Code} (h : gwp P n w0 c N X R ρ (T ++ [rowl f w0.heap.size e size (.slice none 0 0) []])) : gwp P n w0 c N X R ρ T :=
  fun w hM => h w (mem_nilrow f e size hM)

theorem run_append_src {w : World} {base : Nat} {ty e : TypeId} {i : TypeInfo} {z : Value} {size bytes : Nat} (ht : P.underlying t = some (.slice e)) (hi : P.info? e = some i) (hz : i.zero = some z)
    (hsize : i.size = size) (hby : i.bytes = bytes) (hzs : z.cells.size = size) (hsz : 0 < size) {v : Value} {n : Nat} {xs : List Value} (hown : w.ownsRow base e size v n xs)
    {A : Option Addr} {m c : Nat} {news : List Value} (hs : Src w size A m news) (h1 : ∀ u ∈ news, u.oneCell' = true) (hA : A = none → c = 0)
    (h63 : n + m ≤ maxLen) (hbytes : (n + m) * bytes ≤ 140737488355328) (hbase : base ≤ w.heap.size) :
    ∃ v' w', (Builtin.append_ #[t, t] ty #[v, .slice A m c]).run P w = .ok v' w' ∧ w'.ownsRow base e size v' (n + m) (xs ++ news) ∧ w.grownBy w' v.ownBlock ∧ (v'.ownBlock = v.ownBlock ∨ v'.ownBlock = some w.heap.size) := by
  cases A with
  | none =>
    have hm : m = 0 := by
      rcases Nat.eq_zero_or_pos m with h0 | h0
      · exact h0
      · obtain ⟨ad, h, _⟩ := hs.2 h0; cases h
    subst hm
    have hn : news = [] := List.eq_nil_of_length_eq_zero (by simpa using hs.1)
    subst hn
    have hc := hA rfl
    subst hc
    exact ⟨v, w, run_append_owned_none w base t ty e i size ht hi v n xs hown, by simpa using hown, ⟨rfl, rfl, rfl, Nat.le_refl _, fun _ _ _ => rfl⟩, .inl rfl⟩
  | some ad =>
    have hcells : ∀ j u, news[j]? = some u → w.cell? (ad.add j) = some u := by
      intro j u hu
      rcases Nat.eq_zero_or_pos m with h0 | h0
      · subst h0
        have hn : news = [] := List.eq_nil_of_length_eq_zero (by simpa using hs.1)
        subst hn
        simp at hu
      · obtain ⟨ad', h, hc⟩ := hs.2 h0
        injection h with h
        subst h
        exact hc j u hu
    obtain ⟨v', w', hrun, h2, h3, _, h5⟩ := run_append_own_at (P := P) w base t ty e i z size bytes ht hi hz hsize hby hzs hsz v n xs hown ad m c news hs.1 hcells h1 h63 hbytes hbase
    exact ⟨v', w', hrun, h2, h3, h5⟩

/-- what a type's table row says: zero value, cells, bytes -/
def Elem (P : Program) (e : TypeId) (size bytes : Nat) : Prop := ∃ i z, P.info? e = some i ∧ i.zero = some z ∧ i.size = size ∧ i.bytes = bytes ∧ z.cells.size = size ∧ 0 < size
theorem elem_of {e : TypeId} {size bytes : Nat} {z : Value} (h : (P.info? e).map (fun i => (i.zero, i.size, i.bytes)) = some (some z, size, bytes)) (hz : z.cells.size = size) (hp : 0 < size) : Elem P e size bytes := by
  cases hi : P.info? e with
  | none => rw [hi] at h; cases h
  | some i =>
    rw [hi] at h
    simp only [Option.map_some, Option.some.injEq, Prod.mk.injEq] at h
    exact ⟨i, z, hi, h.1, h.2.1, h.2.2, hz, hp⟩

theorem mem_append {α : Type} {f : α → List Value} {size bytes : Nat} {e ty : TypeId} (i : Nat) (ht : P.underlying t = some (.slice e)) (he : Elem P e size bytes) (hf : Wide f size) {v : Value} {l l2 : List α}
    (hi : T[i]? = some (rowl f w0.heap.size e size v l)) {A : Option Addr} {m c : Nat} (hm : m = l2.length) (hA : A = none → c = 0)
    (h63 : l.length + l2.length ≤ maxLen) (hbytes : (l.length + l2.length) * bytes ≤ 140737488355328) (w : World) (hM : Mem w0 T w) (hs : Src w size A l2.length (l2.flatMap f)) :
    ∃ v' w', (Builtin.append_ #[t, t] ty #[v, .slice A m c]).run P w = .ok v' w' ∧ Mem w0 (T.set i (rowl f w0.heap.size e size v' (l ++ l2))) w' := by
  obtain ⟨ii, z, h1, h2, h3, h4, h5, h6⟩ := he
  have hown := hM.own i hi
  subst hm
  have hone : ∀ u ∈ l2.flatMap f, u.oneCell' = true := fun u hu => by
    obtain ⟨x, _, hx⟩ := List.mem_flatMap.1 hu; exact (hf x).2 u hx
  obtain ⟨v', w', hr, ho, hg, hb⟩ := run_append_src (P := P) (ty := ty) ht h1 h2 h3 h4 h5 h6 hown hs hone hA h63 hbytes hM.low.size
  refine ⟨v', w', hr, hM.upd hi (Chg.of_grownBy hg) ?_ ?_⟩
  · show w'.ownsRow _ _ _ _ (l ++ l2).length ((l ++ l2).flatMap f)
    rw [List.length_append, List.flatMap_append]; exact ho
  · intro b hbb
    have hbb' : v'.ownBlock = some b := hbb
    have hlt := (World.ownsRow.lt ho b hbb').2
    refine ⟨?_, hlt⟩
    rcases hb with hb | hb
    · left; show v.ownBlock = some b; rw [← hb]; exact hbb'
    · right; rw [hb] at hbb'; injection hbb' with hbb'; omega
theorem gop_append {α : Type} {f : α → List Value} {size bytes : Nat} {e : TypeId} (i : Nat) (ht : P.underlying t = some (.slice e)) (he : Elem P e size bytes) (hf : Wide f size) {v : Value} {l l2 : List α} {A : Option Addr} {m c : Nat}
    (hx : ev ρ x = v) (hy : ev ρ y = .slice A m c) (hi : T[i]? = some (rowl f w0.heap.size e size v l)) (hm : m = l2.length) (hA : A = none → c = 0)
    (h63 : l.length + l2.length ≤ maxLen) (hbytes : (l.length + l2.length) * bytes ≤ 140737488355328) (hs : ∀ w, Mem w0 T w → Src w size A l2.length (l2.flatMap f)) (hlt : Nat.blt d n.n = true)
    (h : ∀ v', gops P n w0 full rest N (upd ρ d v') (T.set i (rowl f w0.heap.size e size v' (l ++ l2)))) :
    gops P n w0 full (⟨some d, .call { callee := .builtin .append, args := #[x, y], argTypes := #[t, t] }, ty, pos, af, none⟩ :: rest) N ρ T :=
  gop_w (fun w hM => by
    obtain ⟨v', w', hr, hM'⟩ := mem_append (P := P) (ty := ty) i ht he hf hi hm hA h63 hbytes w hM (hs w hM)
    refine ⟨v', w', ?_, h v' w' hM'⟩
    simp only [execOp, resolve, invoke, builtin, Sem.run_bind, Sem.run_pure, Result.andThen_ok, List.map_toArray, List.map_cons, List.map_nil, hx, hy, hr]) rfl rfl hlt
theorem src_box (i : Nat) {b m size : Nat} {cs : List Value} {e : TypeId} (hi : T[i]? = some (box b (.cells cs.toArray e))) (hl : cs.length = m * size) : ∀ w, Mem w0 T w → Src w size (some ⟨b, 0, none⟩) m cs :=
  fun w hM => ⟨hl, fun _ => ⟨_, rfl, fun j u hu => cells_box i hi j u hu w hM⟩⟩
/-- make([]T, n), of one-cell elements -/
theorem gop_make {α : Type} {f : α → List Value} {size bytes : Nat} {e : TypeId} (a0 : α) {z : Value} (ht : P.underlying t = some (.slice e)) (hinfo : (P.info? e).map (fun i => (i.zero, i.size, i.bytes)) = some (some z, 1, bytes)) (hz : f a0 = [z]) (hzz : z.cells = #[z]) (hsz : size = 1) {k : Nat}
    (hx : ev ρ x = .int .i64 (k : Int)) (hy : ev ρ y = .int .i64 (k : Int)) (hb : bytes * k ≤ 281474976710656) (h63 : k ≤ maxLen) (hlt : Nat.blt d n.n = true)
    (h : ∀ b, w0.heap.size ≤ b → gops P n w0 full rest N (upd ρ d (.slice (some ⟨b, 0, none⟩) k k)) (T ++ [rowl f w0.heap.size e size (.slice (some ⟨b, 0, none⟩) k k) (List.replicate k a0)])) :
    gops P n w0 full (⟨some d, .makeSlice t x y, ty, pos, af, none⟩ :: rest) N ρ T :=
  gop_w (fun w hM => by
    subst hsz
    cases hi : P.info? e with
    | none => rw [hi] at hinfo; cases hinfo
    | some i =>
      rw [hi] at hinfo
      simp only [Option.map_some, Option.some.injEq, Prod.mk.injEq] at hinfo
      obtain ⟨i1, i2, i3⟩ := hinfo
      obtain ⟨w', hr, ho, hg⟩ := run_make_full (P := P) w w0.heap.size t e i z 1 ht hi i1 i2 .i64 .i64 k (by rw [i3]; exact hb) h63 hM.low.size
      refine ⟨_, w', by simp [execOp, hx, hy, hr], h w.heap.size hM.low.size w' (hM.add ⟨hg.os, hg.tape, hg.output, hg.size, fun j hj => hg.block j hj (by simp)⟩ ?_ ?_)⟩
      · show w'.ownsRow _ _ _ _ (List.replicate k a0).length ((List.replicate k a0).flatMap f)
        have e1 : (List.replicate k a0).flatMap f = (madeCells z.cells (k * 1)).toList := by
          rw [hzz, Nat.mul_one, toList_madeCells_one]
          clear hr ho hg hb h63 hx hy h
          induction k with
          | zero => rfl
          | succ k ih => rw [List.replicate_succ, List.flatMap_cons, hz, ih, List.replicate_succ]; rfl
        rw [List.length_replicate, e1]
        exact ho
      · intro b hbb
        have hbb' : some w.heap.size = some b := hbb
        injection hbb' with hbb'
        subst hbb'
        exact ⟨Nat.le_refl _, (World.ownsRow.lt ho _ rfl).2⟩) rfl rfl hlt
end

/-! calls -/
section
variable {P : Program} {ρ : Env} {dst : Option Tmp} {ty : TypeId} {pos : String} {af : Array Edge} {gd : Option (Nat × Bool)} {x : Operand}
theorem e_call {f : FuncId} {fn : Func} {args : Array Operand} {ats : Array TypeId} {vs : List Value} (hf : P.funcs[f]? = some fn) (hb : fn.body.isSome = true) (hnm : (fn.name == "runtime.NumGoroutine") = false) (ha : args.toList.map (ev ρ) = vs) (w : World) :
    (execOp (ev ρ) ⟨dst, .call { callee := .value (.func f), args := args, argTypes := ats }, ty, pos, af, gd⟩).run P w = .ok (.enter f vs.toArray) w := by
  have e : args.map (ev ρ) = vs.toArray := by rw [← ha, ← Array.toList_map, Array.toArray_toList]
  obtain ⟨c, hc⟩ := Option.isSome_iff_exists.1 hb
  have hnm' : ¬ fn.name = "runtime.NumGoroutine" := by simpa using hnm
  simp [execOp, resolve, Deferred.ofValue, ev, invoke, callFunc, e, hf, hc, hnm']
end
end Go.Cf
