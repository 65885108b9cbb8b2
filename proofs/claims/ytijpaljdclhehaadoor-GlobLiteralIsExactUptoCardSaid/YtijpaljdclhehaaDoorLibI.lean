/- Own walking frame, part I: arrays and rows by elements. Program independent. -/
import Derived.Test.YtijpaljdclhehaaDoorLibH
namespace Go.Cf
open Go.RowKit

theorem flat_extract {α : Type} {f : α → List Value} {size : Nat} (hf : ∀ x, (f x).length = size) : ∀ (l : List α) (k : Nat) (x : α), l[k]? = some x → ((l.flatMap f).drop (k * size)).take size = f x
  | [], _, _, h => by simp at h
  | y :: l, 0, x, h => by
    simp at h; subst h
    rw [List.flatMap_cons, Nat.zero_mul, List.drop_zero, List.take_append_of_le_length (by rw [hf]; omega), List.take_of_length_le (by rw [hf]; omega)]
  | y :: l, k + 1, x, h => by
    simp at h
    rw [List.flatMap_cons, List.drop_append, List.drop_of_length_le (by rw [hf, Nat.add_mul]; omega), List.nil_append, hf]
    have e : (k + 1) * size - size = k * size := by rw [Nat.add_mul]; omega
    rw [e]; exact flat_extract hf l k x h
/-- one element replaced -/
theorem flat_set {α : Type} {f : α → List Value} {size : Nat} (hf : ∀ x, (f x).length = size) : ∀ (l : List α) (k : Nat) (x : α) (i : Nat) (u : Value), k < l.length → i < size → ∀ y, l[k]? = some y → f x = (f y).set i u →
    (l.set k x).flatMap f = (l.flatMap f).set (k * size + i) u
  | [], k, _, _, _, h, _, _, _, _ => by simp at h
  | y :: l, 0, x, i, u, _, hi, z, hz, he => by
    simp at hz; subst hz
    simp only [List.set_cons_zero, List.flatMap_cons, Nat.zero_mul, Nat.zero_add]
    rw [List.set_append_left _ _ (by rw [hf]; exact hi), he]
  | y :: l, k + 1, x, i, u, h, hi, z, hz, he => by
    simp at hz h
    simp only [List.set_cons_succ, List.flatMap_cons]
    rw [List.set_append_right _ _ (by rw [hf, Nat.add_mul]; omega), hf, flat_set hf l k x i u h hi z hz he]
    congr 2; rw [Nat.add_mul]; omega
def setCells (cs : List Value) (off : Nat) : List Value → List Value
  | [] => cs
  | u :: us => setCells (cs.set off u) (off + 1) us
theorem len_setCells : ∀ (us : List Value) (cs : List Value) (off : Nat), (setCells cs off us).length = cs.length
  | [], _, _ => rfl
  | _ :: us, cs, off => by show (setCells _ _ us).length = _; rw [len_setCells us]; simp
theorem putAt_list : ∀ (us : List Value) (cs : List Value) (off : Nat), putAt cs.toArray off us = (setCells cs off us).toArray
  | [], _, _ => rfl
  | u :: us, cs, off => by
    show putAt (cs.toArray.setIfInBounds off u) (off + 1) us = _
    rw [List.setIfInBounds_toArray]; exact putAt_list us _ _
theorem setCells_flat {α : Type} {f : α → List Value} {size : Nat} (hf : ∀ x, (f x).length = size) (l : List α) (k : Nat) (y : α) (hk : l[k]? = some y) : ∀ (us : List Value) (i : Nat) (l' : List Value), i + us.length ≤ size → l'.length = (l.flatMap f).length →
    setCells l' (k * size + i) us = (l'.take (k * size)) ++ setCells ((l'.drop (k * size)).take size) i us ++ l'.drop (k * size + size)
  | [], i, l', _, hl => by
    show l' = _ ++ ((l'.drop _).take size) ++ _
    rw [List.append_assoc, ← List.drop_drop, List.take_append_drop, List.take_append_drop]
  | u :: us, i, l', hi, hl => by
    have hkl : k < l.length := by
      rcases Nat.lt_or_ge k l.length with h | h
      · exact h
      · rw [List.getElem?_eq_none h] at hk; cases hk
    have hsz : k * size + size ≤ l'.length := by
      rw [hl, flat_len hf]
      have : (k + 1) * size ≤ l.length * size := Nat.mul_le_mul_right _ hkl
      rw [Nat.add_mul] at this; omega
    simp at hi
    show setCells (l'.set (k * size + i) u) (k * size + i + 1) us = _ ++ setCells (((l'.drop (k * size)).take size).set i u) (i + 1) us ++ _
    rw [Nat.add_assoc, setCells_flat hf l k y hk us (i + 1) _ (by omega) (by simp [hl])]
    have e1 : (l'.set (k * size + i) u).take (k * size) = l'.take (k * size) := by rw [List.take_set_of_le (by omega)]
    have e2 : ((l'.set (k * size + i) u).drop (k * size)).take size = ((l'.drop (k * size)).take size).set i u := by
      rw [List.drop_set, if_neg (by omega), Nat.add_sub_cancel_left, List.take_set]
    have e3 : (l'.set (k * size + i) u).drop (k * size + size) = l'.drop (k * size + size) := by rw [List.drop_set_of_lt (by omega)]
    rw [e1, e2, e3]
theorem flat_parts {α : Type} {f : α → List Value} {size : Nat} (hf : ∀ x, (f x).length = size) (l : List α) (k : Nat) (x : α) (hk : k < l.length) :
    (l.set k x).flatMap f = (l.flatMap f).take (k * size) ++ f x ++ (l.flatMap f).drop (k * size + size) := by
  have e1 : ∀ (l : List α) (k : Nat), k ≤ l.length → (l.flatMap f).take (k * size) = (l.take k).flatMap f ∧ (l.flatMap f).drop (k * size) = (l.drop k).flatMap f := by
    intro l k hkl
    have h1 : l.flatMap f = (l.take k).flatMap f ++ (l.drop k).flatMap f := by rw [← List.flatMap_append, List.take_append_drop]
    have h2 : ((l.take k).flatMap f).length = k * size := by rw [flat_len hf, List.length_take, Nat.min_eq_left hkl]
    rw [h1, ← h2]
    exact ⟨List.take_left, List.drop_left⟩
  have e2 : k * size + size = (k + 1) * size := by rw [Nat.add_mul]; omega
  rw [e2, (e1 l k (by omega)).1, (e1 l (k + 1) (by omega)).2, List.set_eq_take_append_cons_drop, if_pos hk, List.flatMap_append, List.flatMap_cons, List.append_assoc]
/-- cells written into one element -/
theorem flat_put {α : Type} {f : α → List Value} {size : Nat} (hf : ∀ x, (f x).length = size) {l : List α} {k : Nat} {y x : α} (hk : l[k]? = some y) {us : List Value} {i : Nat} (hi : i + us.length ≤ size) (he : setCells (f y) i us = f x) :
    setCells (l.flatMap f) (k * size + i) us = (l.set k x).flatMap f := by
  have hkl : k < l.length := by
    rcases Nat.lt_or_ge k l.length with h | h
    · exact h
    · rw [List.getElem?_eq_none h] at hk; cases hk
  rw [setCells_flat hf l k y hk us i _ hi rfl, flat_extract hf l k y hk, he, flat_parts hf l k x hkl]

section
variable {P : Program} {n : Fr} {w0 : World} {N : Env → World → Prop} {ρ : Env} {T : List Reg} {full : Array Oper} {rest : List Oper} {dst : Option Tmp} {d : Nat} {ty : TypeId} {pos : String} {af : Array Edge} {gd : Option (Nat × Bool)} {x y : Operand} {v : Value} {t : TypeId}
/-- an element of an array value -/
theorem y_arridx {α : Type} {f : α → List Value} {l : List α} {e : TypeId} {s len m : Nat} {i : Int} {k : IntKind} (hf : ∀ x, (f x).length = s) (ht : P.underlying t = some (.array len e)) (hs : ∀ w, (sizeOf e).run P w = .ok s w) (ha : ∀ w, (isAgg e).run P w = .ok true w)
    (hx : ev ρ x = .agg (l.flatMap f).toArray) (hi : ev ρ y = .int k i) (hm : i.toNat = m) (h0 : 0 ≤ i) (h1 : i < len) {a : α} (hl : l[m]? = some a) :
    Yield P w0 T ρ ⟨dst, .index t x y, ty, pos, af, gd⟩ (.agg (f a).toArray) := fun w _ => by
  subst hm
  have he := flat_extract hf l _ a hl
  simp [execOp, hx, hi, Instr.index, asIntOf, run_underlying ht, h0, h1, hs, part, ha, he]
theorem y_arridx1 {α : Type} {f : α → Value} {l : List α} {e : TypeId} {len m : Nat} {i : Int} {k : IntKind} (ht : P.underlying t = some (.array len e)) (hs : ∀ w, (sizeOf e).run P w = .ok 1 w) (ha : ∀ w, (isAgg e).run P w = .ok false w)
    (hx : ev ρ x = .agg (l.map f).toArray) (hi : ev ρ y = .int k i) (hm : i.toNat = m) (h0 : 0 ≤ i) (h1 : i < len) {a : α} (hl : l[m]? = some a) :
    Yield P w0 T ρ ⟨dst, .index t x y, ty, pos, af, gd⟩ (f a) := fun w _ => by
  subst hm
  simp [execOp, hx, hi, Instr.index, asIntOf, run_underlying ht, h0, h1, hs, part, ha, hl]
/-- cells stored into one element of a block that holds a list -/
theorem gop_store_el (i : Nat) {α : Type} {f : α → List Value} {l : List α} {size b m k o off : Nat} {e : TypeId} {us : List Value} {T' : List Reg} (hf : ∀ x, (f x).length = size) (hx : ev ρ x = .pointer (some ⟨b, off, none⟩)) (hoff : off = k * size + o) (hy : ev ρ y = v)
    (hs : ∀ w, (sizeOf t).run P w = .ok m w) (hv : v.cells.toList = us) (hm : us.length = m) (h1 : us.all Value.oneCell' = true) (hi : T[i]? = some (box b (.cells (l.flatMap f).toArray e))) {a a' : α} (hk : l[k]? = some a) (hl : o + m ≤ size) (he : setCells (f a) o us = f a')
    (hT : T.set i (box b (.cells ((l.set k a').flatMap f).toArray e)) = T') (h : gops P n w0 full rest N ρ T') : gops P n w0 full (⟨none, .store t x y, ty, pos, af, none⟩ :: rest) N ρ T := by
  have hkl : k < l.length := by
    rcases Nat.lt_or_ge k l.length with h | h
    · exact h
    · rw [List.getElem?_eq_none h] at hk; cases hk
  have hsz : k * size + size ≤ l.length * size := by
    have : (k + 1) * size ≤ l.length * size := Nat.mul_le_mul_right _ hkl
    rw [Nat.add_mul] at this; omega
  refine gop_store i hx hy hs hv hm h1 hi ?_ ?_ hT h
  · rw [List.size_toArray, flat_len hf]; omega
  · rw [putAt_list, hoff, flat_put hf hk (by omega) he]

theorem run_storeRow {base size nn cap g : Nat} {e : TypeId} {off : Nat} : ∀ (us : List Value) (i : Nat) (xs : List Value) (w : World), w.ownsRow base e size (.slice (some ⟨g, 0, none⟩) nn cap) nn xs → (∀ u ∈ us, u.oneCell' = true) →
    off + i + us.length ≤ nn * size → ∃ w', (storeCells ⟨g, off, none⟩ us i).run P w = .ok () w' ∧ w'.ownsRow base e size (.slice (some ⟨g, 0, none⟩) nn cap) nn (setCells xs (off + i) us) ∧ Chg (fun k => k = g) w w'
  | [], i, xs, w, hb, _, _ => ⟨w, rfl, hb, ⟨rfl, rfl, rfl, Nat.le_refl _, fun _ _ _ => rfl⟩⟩
  | u :: us, i, xs, w, hb, h1, hl => by
    have hl' : off + i < nn * size := by simp at hl; omega
    have hxl : off + i < xs.length := by rw [hb.1]; exact hl'
    have hc : w.cell? ⟨g, off + i, none⟩ = some xs[off + i] := by rw [hb.cellAt _ hl', List.getElem?_eq_getElem hxl]
    have hf := hb.frozenAt (off + i)
    obtain ⟨ho, hg⟩ := hb.stored (off + i) u
    obtain ⟨w', hr, ho2, hc2⟩ := run_storeRow (off := off) us (i + 1) _ _ ho (fun z hz => h1 z (by simp [hz])) (by simp at hl; omega)
    refine ⟨w', ?_, ho2, (Chg.setCell w ⟨g, off + i, none⟩ u).trans hc2⟩
    have hst := run_store P w ⟨g, off + i, none⟩ u .plain (h1 u (by simp))
    simp only [storeCells, Sem.run_bind, Addr.add_lit]
    rw [hst]
    simp only [hc, hf]
    simpa using hr
/-- cells stored into one element of a slice of the call's own -/
theorem gop_store_row (i : Nat) {α : Type} {f : α → List Value} {l : List α} {size base g nn cap m k o off : Nat} {e : TypeId} {us : List Value} {T' : List Reg} (hf : ∀ x, (f x).length = size) (hx : ev ρ x = .pointer (some ((⟨g, 0, none⟩ : Addr).add off))) (hoff : off = k * size + o) (hy : ev ρ y = v)
    (hs : ∀ w, (sizeOf t).run P w = .ok m w) (hv : v.cells.toList = us) (hm : us.length = m) (h1 : us.all Value.oneCell' = true) (hi : T[i]? = some (rowl f base e size (.slice (some ⟨g, 0, none⟩) nn cap) l)) (hn : nn = l.length) {a a' : α} (hk : l[k]? = some a) (hl : o + m ≤ size) (he : setCells (f a) o us = f a')
    (hT : T.set i (rowl f base e size (.slice (some ⟨g, 0, none⟩) nn cap) (l.set k a')) = T') (h : gops P n w0 full rest N ρ T') : gops P n w0 full (⟨none, .store t x y, ty, pos, af, none⟩ :: rest) N ρ T := by
  have hkl : k < l.length := by
    rcases Nat.lt_or_ge k l.length with h | h
    · exact h
    · rw [List.getElem?_eq_none h] at hk; cases hk
  have hsz : k * size + size ≤ l.length * size := by
    have : (k + 1) * size ≤ l.length * size := Nat.mul_le_mul_right _ hkl
    rw [Nat.add_mul] at this; omega
  refine gop_s (fun w hM => ?_) rfl rfl
  subst hn
  have hown := hM.own i hi
  obtain ⟨w', hr, ho, hc⟩ := run_storeRow (P := P) (off := off) us 0 _ w hown (by simpa [List.all_eq_true] using h1) (by rw [hoff]; omega)
  have hM' : Mem w0 T' w' := by
    subst hT
    refine hM.upd hi ⟨hc.os, hc.tape, hc.output, hc.size, fun j hj hn => hc.block j hj (fun e => hn (by rw [e]; rfl))⟩ ?_ ?_
    · show w'.ownsRow _ _ _ _ (l.set k a').length ((l.set k a').flatMap f)
      rw [List.length_set, ← flat_put hf hk (by omega) he, ← hoff]
      exact ho
    · intro b hb
      have hb' : some g = some b := hb
      injection hb' with hb'
      subst hb'
      exact ⟨.inl rfl, Nat.lt_of_lt_of_le (hM.lt _ (List.mem_of_getElem? hi) g rfl) hc.size⟩
  refine ⟨w', ?_, h w' hM'⟩
  have hsz : v.cells.size = m := by rw [← Array.length_toList, hv, hm]
  rw [Addr.add_lit, Nat.zero_add] at hx
  simp [execOp, hx, hy, Instr.storeAt, Instr.sureAddr, storeVar, hs, hsz, hv, hr]
theorem setCells_all : ∀ (us pre post : List Value), post.length = us.length → setCells (pre ++ post) pre.length us = pre ++ us
  | [], pre, post, h => by
    have : post = [] := List.eq_nil_of_length_eq_zero h
    subst this; rfl
  | u :: us, pre, [], h => by simp at h
  | u :: us, pre, p :: post, h => by
    show setCells ((pre ++ p :: post).set pre.length u) (pre.length + 1) us = _
    have e : (pre ++ p :: post).set pre.length u = (pre ++ [u]) ++ post := by
      rw [List.set_append_right _ _ (Nat.le_refl _), Nat.sub_self]; simp
    have e2 : pre.length + 1 = (pre ++ [u]).length := by simp
    rw [e, e2, setCells_all us (pre ++ [u]) post (by simpa using h)]; simp
theorem setCells_mid : ∀ (us pre mid post : List Value), mid.length = us.length → setCells (pre ++ mid ++ post) pre.length us = pre ++ us ++ post
  | [], pre, mid, post, h => by
    have : mid = [] := List.eq_nil_of_length_eq_zero h
    subst this; rfl
  | u :: us, pre, [], post, h => by simp at h
  | u :: us, pre, p :: mid, post, h => by
    show setCells ((pre ++ p :: mid ++ post).set pre.length u) (pre.length + 1) us = _
    have e : (pre ++ p :: mid ++ post).set pre.length u = (pre ++ [u]) ++ mid ++ post := by
      rw [List.append_assoc, List.set_append_right _ _ (Nat.le_refl _), Nat.sub_self]; simp
    have e2 : pre.length + 1 = (pre ++ [u]).length := by simp
    rw [e, e2, setCells_mid us (pre ++ [u]) mid post (by simpa using h)]; simp
theorem putAt_all (us cs : List Value) (h : cs.length = us.length) : putAt cs.toArray 0 us = us.toArray := by
  rw [putAt_list]
  have := setCells_all us [] cs h
  simpa using this
theorem flat_one {α : Type} {f : α → List Value} {s : Nat} (hf : Wide f s) (l : List α) : (l.flatMap f).all Value.oneCell' = true := by
  rw [List.all_eq_true]; intro u hu
  obtain ⟨x, _, hx⟩ := List.mem_flatMap.1 hu; exact (hf x).2 u hx
/-- a whole array stored into a block that holds one -/
theorem gop_store_flat (i : Nat) {α : Type} {f : α → List Value} {l l0 : List α} {b m s : Nat} {e : TypeId} {T' : List Reg} (hf : Wide f s) (hx : ev ρ x = .pointer (some ⟨b, 0, none⟩)) (hy : ev ρ y = .agg (l.flatMap f).toArray)
    (hs : ∀ w, (sizeOf t).run P w = .ok m w) (hl : l.length * s = m) (hi : T[i]? = some (box b (.cells (l0.flatMap f).toArray e))) (hl0 : l0.length = l.length) (hT : T.set i (box b (.cells (l.flatMap f).toArray e)) = T')
    (h : gops P n w0 full rest N ρ T') : gops P n w0 full (⟨none, .store t x y, ty, pos, af, none⟩ :: rest) N ρ T :=
  gop_store i hx hy hs rfl (by show (l.flatMap f).length = m; rw [flat_len (fun x => (hf x).1), hl]) (flat_one hf l) hi (by rw [List.size_toArray, flat_len (fun x => (hf x).1), hl0, hl]; omega)
    (putAt_all _ _ (by show (l0.flatMap f).length = (l.flatMap f).length; rw [flat_len (fun x => (hf x).1), flat_len (fun x => (hf x).1), hl0])) hT h
theorem run_store_flat (i : Nat) {α : Type} {f : α → List Value} {l l0 : List α} {b m s : Nat} {e : TypeId} {T' : List Reg} (hf : Wide f s) (hx : ev ρ x = .pointer (some ⟨b, 0, none⟩)) (hy : ev ρ y = .agg (l.flatMap f).toArray)
    (hs : ∀ w, (sizeOf t).run P w = .ok m w) (hl : l.length * s = m) (hi : T[i]? = some (box b (.cells (l0.flatMap f).toArray e))) (hl0 : l0.length = l.length) (hT : T.set i (box b (.cells (l.flatMap f).toArray e)) = T') :
    ∀ w, Mem w0 T w → ∃ w', (execOp (ev ρ) ⟨dst, .store t x y, ty, pos, af, gd⟩).run P w = .ok .skip w' ∧ Mem w0 T' w' :=
  run_store_box i hx hy hs rfl (by show (l.flatMap f).length = m; rw [flat_len (fun x => (hf x).1), hl]) (flat_one hf l) hi (by rw [List.size_toArray, flat_len (fun x => (hf x).1), hl0, hl]; omega)
    (putAt_all _ _ (by show (l0.flatMap f).length = (l.flatMap f).length; rw [flat_len (fun x => (hf x).1), flat_len (fun x => (hf x).1), hl0])) hT
theorem Rdl.of_box {w : World} (i : Nat) {α : Type} {f : α → List Value} {l : List α} {size b : Nat} {e : TypeId} {cs : Array Value} (hf : ∀ x, (f x).length = size) (hM : Mem w0 T w) (hi : T[i]? = some (box b (.cells cs e))) (hl : (l.flatMap f).toArray = cs) : Rdl w w0.heap.size size f (some ⟨b, 0, none⟩) l := fun _ => by
  subst hl
  exact ⟨_, rfl, hM.ge _ (List.mem_of_getElem? hi) b rfl, fun k x hx j u hu => cells_box i hi _ u (flat_at hf l k x hx j u hu) w hM⟩
end
end Go.Cf
namespace Go.Cf
section
variable {P : Program} {n : Fr} {w0 : World} {N : Env → World → Prop} {X : Nat → Env → World → Prop} {R : Env → World → Prop} {ρ : Env} {T : List Reg} {l : List Oper}
/-- a region that draws and writes; the entries that S names are forgotten but for their size -/
theorem greg_hs {id : Nat} (S : List (Nat × Reg)) (hm : P.follows .mixedOrders = true) (h : ghd P n w0 l.toArray (setL T S) l.length (Array.replicate l.length false) N ρ T) (hrd : n.rd = none := by rfl) : gwp P n w0 (.region id l.toArray true) N X R ρ T :=
  greg_h (setL T S) hm h hrd
end
end Go.Cf
namespace Go.Cf
/-- literals of slices: the parts one behind the other -/
def numbered : Nat → List Value → List (Nat × Value)
  | _, [] => []
  | k, v :: vs => (k, v) :: numbered (k + 1) vs
theorem foldl_put (off : Nat) : ∀ (us : List Value) (j : Nat) (cs : Array Value), (us.zipIdx j).foldl (fun cs (p : Value × Nat) => cs.setIfInBounds (off + p.2) p.1) cs = putAt cs (off + j) us
  | [], _, _ => rfl
  | u :: us, j, cs => by
    rw [List.zipIdx_cons, List.foldl_cons, foldl_put off us (j + 1)]; rfl
theorem fill_seq (s : Nat) : ∀ (vs : List Value) (k : Nat) (cs : List Value), (∀ v ∈ vs, v.cells.size = s) → cs.length = (k + vs.length) * s →
    Instr.fill (fun i => some (i * s, s)) cs.toArray (numbered k vs) = some ((cs.take (k * s)) ++ vs.flatMap (fun v => v.cells.toList)).toArray
  | [], k, cs, _, hl => by
    simp only [numbered, Instr.fill, List.flatMap_nil, List.append_nil]
    rw [List.take_of_length_le (by rw [hl]; simp)]
  | v :: vs, k, cs, hv, hl => by
    have h1 := hv v (by simp)
    have hlen : v.cells.toList.length = s := by rw [Array.length_toList]; exact h1
    have hks : k * s + s ≤ cs.length := by
      rw [hl]
      have : (k + 1) * s ≤ (k + (v :: vs).length) * s := Nat.mul_le_mul_right _ (by simp)
      rw [Nat.add_mul] at this; omega
    have hput : v.cells.zipIdx.foldl (fun cs (p : Value × Nat) => cs.setIfInBounds (k * s + p.2) p.1) cs.toArray = (cs.take (k * s) ++ v.cells.toList ++ cs.drop (k * s + s)).toArray := by
      rw [← Array.foldl_toList, Array.toList_zipIdx, foldl_put, Nat.add_zero, putAt_list]
      congr 1
      have e : cs.take (k * s) ++ (cs.drop (k * s)).take s ++ cs.drop (k * s + s) = cs := by
        rw [List.append_assoc, ← List.drop_drop, List.take_append_drop, List.take_append_drop]
      have := setCells_mid v.cells.toList (cs.take (k * s)) ((cs.drop (k * s)).take s) (cs.drop (k * s + s)) (by simp; omega)
      rw [e, List.length_take, Nat.min_eq_left (by omega)] at this
      exact this
    show (if v.cells.size ≠ s || k * s + v.cells.size > cs.toArray.size then none else Instr.fill _ (v.cells.zipIdx.foldl (fun cs (p : Value × Nat) => cs.setIfInBounds (k * s + p.2) p.1) cs.toArray) (numbered (k + 1) vs)) = _
    rw [if_neg (by simp [h1]; omega), hput, fill_seq s vs (k + 1) _ (fun u hu => hv u (by simp [hu])) (by simp only [List.length_append, List.length_take, List.length_drop, hlen]; rw [hl] at hks ⊢; simp only [List.length_cons] at *; rw [show k + 1 + vs.length = k + (vs.length + 1) by omega]; omega)]
    congr 2
    rw [List.flatMap_cons, ← List.append_assoc]
    congr 1
    rw [List.take_append_of_le_length (by simp only [List.length_append, List.length_take, hlen]; rw [Nat.add_mul]; omega), List.take_of_length_le (by simp only [List.length_append, List.length_take, hlen]; rw [Nat.add_mul]; omega)]
section
variable {P : Program} {n : Fr} {w0 : World} {N : Env → World → Prop} {ρ : Env} {T : List Reg} {full : Array Oper} {rest : List Oper} {d : Nat} {ty t : TypeId} {pos : String} {af : Array Edge}
theorem gop_lit {e : TypeId} {len s : Nat} {parts : Array (Nat × Operand)} {vs : List Value} {cells : Array Value} {z : Value} (ht : P.underlying t = some (.slice e)) (hs : ∀ w, (sizeOf e).run P w = .ok s w)
    (hz : ∀ w, (zeroValue e).run P w = .ok z w) (hp : parts.toList.map (fun q => (q.1, ev ρ q.2)) = numbered 0 vs) (hsm : len * s ≤ 2 ^ 24) (hpos : len * s ≠ 0) (hlen : vs.length = len) (hvs : vs.all (fun v => v.cells.size == s) = true)
    (hc : (vs.flatMap (fun v => v.cells.toList)).toArray = cells) (hlt : Nat.blt d n.n = true)
    (h : ∀ b, w0.heap.size ≤ b → gops P n w0 full rest N (upd ρ d (.slice (some ⟨b, 0, none⟩) len len)) (T ++ [box b (.cells cells e)])) :
    gops P n w0 full (⟨some d, .buildSlice t len parts, ty, pos, af, none⟩ :: rest) N ρ T := by
  refine gop_bslice ht hs hz hp hsm hpos ?_ hlt h
  have := fill_seq s vs 0 ((Array.range (len * s)).map (z.cells[· % z.cells.size]!)).toList (fun v hv => by simpa using (List.all_eq_true.1 hvs) v hv) (by simp [hlen])
  simp only [Array.toArray_toList, Nat.zero_mul, List.take_zero, List.nil_append] at this
  rw [this, hc]
end
end Go.Cf
namespace Go.Cf
section
variable {P : Program} {n : Fr} {w0 : World} {N : Env → World → Prop} {X : Nat → Env → World → Prop} {R : Env → World → Prop} {ρ : Env} {T : List Reg} {full : Array Oper} {l : List Oper}
theorem gops_nilrow {α : Type} (f : α → List Value) (e : TypeId) (size : Nat) (h : gops P n w0 full l N ρ (T ++ [rowl f w0.heap.size e size (.slice none 0 0) []])) : gops P n w0 full l N ρ T :=
  fun w hM => h w (mem_nilrow f e size hM)
theorem gops_fact {Φ : Prop} (h : ∀ w, Mem w0 T w → Φ) (k : Φ → gops P n w0 full l N ρ T) : gops P n w0 full l N ρ T := fun w hM => k (h w hM) w hM
theorem g_fact {c : Code} {Φ : Prop} (h : ∀ w, Mem w0 T w → Φ) (k : Φ → gwp P n w0 c N X R ρ T) : gwp P n w0 c N X R ρ T := fun w hM => k (h w hM) w hM
theorem gopsT (T' : List Reg) (hT : T = T') (h : gops P n w0 full l N ρ T') : gops P n w0 full l N ρ T := by subst hT; exact h
end
end Go.Cf
namespace Go.Cf
section
variable {P : Program} {n : Fr} {w0 : World} {N : Env → World → Prop} {X : Nat → Env → World → Prop} {R : Env → World → Prop} {ρ : Env} {T : List Reg}
theorem gcut3 {c : Code} {Lf : List (Nat × Value)} {G : Type} (φ : G → Prop) (L : G → List (Nat × Value)) (S : G → List (Nat × Reg)) (hf0 : agree ρ Lf)
    (h1 : gwp P n w0 c (fun ρ' w' => ∃ g, φ g ∧ agree ρ' (L g) ∧ agree ρ' Lf ∧ Mem w0 (setL T (S g)) w') X R ρ T)
    (h2 : ∀ g, φ g → ∀ σ, Fin w0 N (updL (updL σ Lf) (L g)) (setL T (S g))) : gwp P n w0 c N X R ρ T := gcut2 φ L (fun g => setL T (S g)) hf0 h1 h2
theorem gcut3_end {T0 : List Reg} {Lf : List (Nat × Value)} {G : Type} {φ : G → Prop} {L : G → List (Nat × Value)} {S : G → List (Nat × Reg)} (g : G) (hφ : φ g) (hL : agree ρ (L g)) (hF : agree ρ Lf) (hT : ∃ extra, T = setL T0 (S g) ++ extra) :
    Fin w0 (fun ρ' w' => ∃ g, φ g ∧ agree ρ' (L g) ∧ agree ρ' Lf ∧ Mem w0 (setL T0 (S g)) w') ρ T := gcut2_end (T' := fun g => setL T0 (S g)) g hφ hL hF hT
end
end Go.Cf
