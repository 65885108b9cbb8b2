/- Own walking frame, part O: maps that the code has made. Program independent. -/
import Derived.Test.YtijpaljdclhehaaDoorLibN
import Derived.WideKeyRuns
import Derived.Maps.Keyed
import Derived.Carry
namespace Go.Cf
open Go.RowKit

structure Key {K : Type} [DecidableEq K] (P : Program) (kt : TypeId) (ek : K → Value) : Prop where
  wide : (match P.underlying kt with | some (.array _ _) | some (.struct _) => true | _ => false) = true
  check : ∀ (em : Bool) (k : K) (w : World), (Instr.checkKey em 10000 kt (ek k)).run P w = .ok () w
  eq : ∀ (k k' : K) (w : World), (Op.equal kt (ek k) (ek k')).run P w = .ok (decide (k = k')) w
  same : ∀ k : K, Instr.sameBits 10000 (ek k) (ek k) = true

section
variable {K V : Type} [DecidableEq K] {ek : K → Value} {vk : V → Value} {P : Program} {kt t vt : TypeId}
def look (l : List (K × V)) (k : K) : Option V := match l with
  | [] => none
  | p :: l => if p.1 = k then some p.2 else look l k
def putK (l : List (K × V)) (k : K) (v : V) : List (K × V) := match l with
  | [] => [(k, v)]
  | p :: l => if p.1 = k then (k, v) :: l else p :: putK l k v
theorem look_put (l : List (K × V)) (k k' : K) (v : V) : look (putK l k v) k' = if k = k' then some v else look l k' := by
  induction l with
  | nil => simp [look, putK]
  | cons p l ih =>
    simp only [putK]
    split
    · rename_i h; simp only [look]; subst h; split <;> simp_all
    · rename_i h; simp only [look, ih]; split <;> split <;> simp_all
theorem look_mem {l : List (K × V)} {k : K} {v : V} (h : look l k = some v) : (k, v) ∈ l := by
  induction l with
  | nil => simp [look] at h
  | cons p l ih =>
    simp only [look] at h
    split at h
    · rename_i e; cases h; subst e; simp
    · exact List.mem_cons_of_mem _ (ih h)
theorem putK_mem {l : List (K × V)} {k : K} {v : V} {p : K × V} (h : p ∈ putK l k v) : p = (k, v) ∨ p ∈ l := by
  induction l with
  | nil => simp [putK] at h; exact .inl h
  | cons q l ih =>
    simp only [putK] at h
    split at h
    · rcases List.mem_cons.1 h with h | h
      · exact .inl h
      · exact .inr (List.mem_cons_of_mem _ h)
    · rcases List.mem_cons.1 h with h | h
      · exact .inr (by simp [h])
      · rcases ih h with h | h
        · exact .inl h
        · exact .inr (List.mem_cons_of_mem _ h)
def Shows (ek : K → Value) (vk : V → Value) (es : List MapEntry) (l : List (K × V)) : Prop := es.map (fun e => (e.key, e.val)) = l.map (fun p => (ek p.1, vk p.2))
theorem shows_cons {K V : Type} {ek : K → Value} {vk : V → Value} {e : MapEntry} {es : List MapEntry} {l : List (K × V)} (h : Shows ek vk (e :: es) l) : ∃ p l', l = p :: l' ∧ e.key = ek p.1 ∧ e.val = vk p.2 ∧ Shows ek vk es l' := by
  cases l with
  | nil => simp [Shows] at h
  | cons p l' =>
    simp only [Shows, List.map_cons, List.cons.injEq, Prod.mk.injEq] at h
    exact ⟨p, l', rfl, h.1.1, h.1.2, h.2⟩
/-- what the search finds -/
def place (l : List (K × V)) (k : K) (i : Nat) : Option (Nat × V) := match l with
  | [] => none
  | p :: l => if p.1 = k then some (i, p.2) else place l k (i + 1)
theorem place_look (l : List (K × V)) (k : K) (i : Nat) : (place l k i).map (·.2) = look l k := by
  induction l generalizing i with
  | nil => rfl
  | cons p l ih => simp only [place, look]; split <;> simp [ih]
theorem run_find (H : Key P kt ek) (k : K) (w : World) : ∀ (es : List MapEntry) (l : List (K × V)) (i : Nat), Shows ek vk es l →
    (Instr.findAsking kt (ek k) es i).run P w = .ok ((place l k i).map fun q => (q.1, vk q.2)) w
  | [], l, i, h => by
    cases l with
    | nil => simp [Instr.findAsking, place]
    | cons p l => simp [Shows] at h
  | e :: es, l, i, h => by
    obtain ⟨p, l', rfl, h1, h2, h3⟩ := shows_cons h
    simp only [Instr.findAsking, place]
    by_cases hk : p.1 = k
    · subst hk
      simp [h1, H.eq, h2]
    · simp [h1, H.eq, hk, Ne.symm hk, run_find H k w es l' (i + 1) h3]
theorem run_findK (H : Key P kt ek) (k : K) (w : World) {es : List MapEntry} {l : List (K × V)} (h : Shows ek vk es l) :
    (Instr.findKey kt (ek k) es).run P w = .ok ((place l k 0).map fun q => (q.1, vk q.2)) w := by
  rw [run_findKey_eq _ H.wide]
  exact run_find H k w es l 0 h
theorem place_put {l : List (K × V)} {k : K} {i j : Nat} {u v : V} (h : place l k i = some (j, u)) : i ≤ j ∧ (l[j - i]?).map (·.1) = some k ∧ putK l k v = l.set (j - i) (k, v) := by
  induction l generalizing i with
  | nil => simp [place] at h
  | cons p l ih =>
    simp only [place] at h
    split at h
    · rename_i e
      simp only [Option.some.injEq, Prod.mk.injEq] at h
      obtain ⟨rfl, rfl⟩ := h
      simp [putK, e]
    · rename_i e
      obtain ⟨h1, h2, h3⟩ := ih h
      have e1 : j - i = (j - (i + 1)) + 1 := by omega
      refine ⟨by omega, ?_, ?_⟩
      · rw [e1]; simpa using h2
      · rw [e1, putK, if_neg e, h3]; simp
theorem place_none {l : List (K × V)} {k : K} {i : Nat} {v : V} (h : place l k i = none) : putK l k v = l ++ [(k, v)] := by
  induction l generalizing i with
  | nil => rfl
  | cons p l ih =>
    simp only [place] at h
    split at h
    · cases h
    · rename_i e; rw [putK, if_neg e, ih h]; rfl
/-- a map that the code has made: block b -/
def mapr (ek : K → Value) (vk : V → Value) (b : Nat) (l : List (K × V)) : Reg :=
  ⟨fun k => k = b, fun w => ∃ es clock, w.heap[b]? = some (.map es clock) ∧ Shows ek vk es.toList l, fun _ _ h ⟨es, c, h1, h2⟩ => ⟨es, c, (h b rfl).trans h1, h2⟩⟩
end

section
variable {K V : Type} [DecidableEq K] {ek : K → Value} {vk : V → Value} {P : Program} {kt t vt : TypeId} {n : Fr} {w0 : World} {T : List Reg} {ρ : Env} {N : Env → World → Prop} {full : Array Oper} {rest : List Oper}
  {dst : Option Tmp} {ty : TypeId} {pos : String} {af : Array Edge} {gd : Option (Nat × Bool)} {x y z : Operand}
theorem run_lookK (i : Nat) {b : Nat} {l : List (K × V)} (H : Key P kt ek) (ht : P.underlying t = some (.map kt vt)) {v0 : Value} (hz : ∀ w, (zeroValue vt).run P w = .ok v0 w) (hi : T[i]? = some (mapr ek vk b l)) (k : K) (c : Bool) {w : World} (hM : Mem w0 T w) :
    (Instr.lookup t (.map (some b)) (ek k) c).run P w = .ok (if c then .tuple #[((look l k).map vk).getD v0, .bool (look l k).isSome] else ((look l k).map vk).getD v0) w := by
  obtain ⟨es, clock, h1, h2⟩ := hM.ok _ (List.mem_of_getElem? hi)
  have hf := run_findK (vk := vk) H k w h2
  rw [← place_look l k 0]
  cases hp : place l k 0 with
  | none => rw [hp] at hf; cases c <;> simp [Instr.lookup, run_underlying ht, MapKept.run_getObj_map h1, H.check, hf, hz, Result.andThen]
  | some q => rw [hp] at hf; cases c <;> simp [Instr.lookup, run_underlying ht, MapKept.run_getObj_map h1, H.check, hf, Result.andThen]
theorem shows_set {K V : Type} {ek : K → Value} {vk : V → Value} {es : List MapEntry} {l : List (K × V)} (h : Shows ek vk es l) {j : Nat} {e : MapEntry} {k : K} {v : V} (hk : e.key = ek k) (hv : e.val = vk v) : Shows ek vk (es.set j e) (l.set j (k, v)) := by
  unfold Shows at h ⊢
  rw [List.map_set, List.map_set, h, hk, hv]
theorem mem_mapUpdate (i : Nat) {b : Nat} {l : List (K × V)} (H : Key P kt ek) (ht : P.underlying t = some (.map kt vt)) (hi : T[i]? = some (mapr ek vk b l)) (k : K) (v : V) {w : World} (hM : Mem w0 T w) :
    ∃ w', (Instr.mapUpdate t (.map (some b)) (ek k) (vk v)).run P w = .ok () w' ∧ Mem w0 (T.set i (mapr ek vk b (putK l k v))) w' := by
  have hmem := List.mem_of_getElem? hi
  obtain ⟨es, clock, h1, h2⟩ := hM.ok _ hmem
  have hlt : b < w.heap.size := hM.lt _ hmem b rfl
  have hf := run_findK (vk := vk) H k w h2
  have hup : ∀ o : Obj, (mapr ek vk b (putK l k v)).ok { w with heap := w.heap.setIfInBounds b o } → Mem w0 (T.set i (mapr ek vk b (putK l k v))) { w with heap := w.heap.setIfInBounds b o } := fun o hok =>
    hM.upd hi (r := mapr ek vk b l) ⟨rfl, rfl, rfl, by simp, fun q _ hq => by
      have : q ≠ b := hq
      simp [Ne.symm this]⟩ hok (fun q hq => ⟨.inl hq, by have hq' : q = b := hq; subst hq'; simpa using hlt⟩)
  cases hp : place l k 0 with
  | none =>
    rw [hp] at hf
    refine ⟨_, by simp [Instr.mapUpdate, run_underlying ht, MapKept.run_getObj_map h1, H.check, hf, MapKept.run_setObj_map _ h1, Result.andThen]; rfl, hup _ ⟨es.push ⟨ek k, vk v, clock⟩, clock + 1, by simp [hlt], ?_⟩⟩
    rw [place_none hp]
    unfold Shows at h2 ⊢
    simp [h2]
  | some q =>
    obtain ⟨j, u⟩ := q
    rw [hp] at hf
    obtain ⟨-, h4, h5⟩ := place_put (v := v) hp
    simp only [Nat.sub_zero] at h4 h5
    obtain ⟨p0, hp0, hpk⟩ := Option.map_eq_some_iff.1 h4
    have hj : j < es.size := by
      have h6 := congrArg List.length h2
      have h7 := (List.getElem?_eq_some_iff.1 hp0).1
      simp at h6; omega
    have hkey : es[j].key = ek k := by
      have h6 := congrArg (fun l => l[j]?) h2
      simp [hp0, hj] at h6
      rw [h6.1, hpk]
    refine ⟨_, by simp [Instr.mapUpdate, run_underlying ht, MapKept.run_getObj_map h1, H.check, hf, hj, hkey, Instr.keyThatStays, H.same, MapKept.run_setObj_map _ h1, Result.andThen]; rfl, hup _ ⟨_, clock, by simp [hlt]; rfl, ?_⟩⟩
    rw [h5, Array.toList_modify]
    rw [ChangeMaps.modify_eq_set _ _ _ es[j] (by simp [hj])]
    exact shows_set h2 rfl rfl
theorem gop_mapUpdate (i : Nat) {b : Nat} {l l' : List (K × V)} {T' : List Reg} (H : Key P kt ek) (ht : P.underlying t = some (.map kt vt)) (hi : T[i]? = some (mapr ek vk b l)) (k : K) (v : V)
    (hx : ev ρ x = .map (some b)) (hy : ev ρ y = ek k) (hz : ev ρ z = vk v) (hl : putK l k v = l') (hT : T.set i (mapr ek vk b l') = T')
    (h : gops P n w0 full rest N ρ T') : gops P n w0 full (⟨none, .mapUpdate t x y z, ty, pos, af, none⟩ :: rest) N ρ T :=
  gop_s (fun w hM => by
    obtain ⟨w', hr, hM'⟩ := mem_mapUpdate (P := P) i H ht hi k v hM
    refine ⟨w', ?_, h w' (by subst hl; subst hT; exact hM')⟩
    simp [execOp, hx, hy, hz, hr]) rfl rfl
theorem y_lookup (i : Nat) {b : Nat} {l : List (K × V)} {u : Value} (H : Key P kt ek) (ht : P.underlying t = some (.map kt vt)) {v0 : Value} (hz : ∀ w, (zeroValue vt).run P w = .ok v0 w) (hi : T[i]? = some (mapr ek vk b l)) (k : K) {c : Bool}
    (hx : ev ρ x = .map (some b)) (hy : ev ρ y = ek k) (hu : (if c then .tuple #[((look l k).map vk).getD v0, .bool (look l k).isSome] else ((look l k).map vk).getD v0) = u) :
    Yield P w0 T ρ ⟨dst, .lookup t x y c, ty, pos, af, gd⟩ u := fun w hM => by
  have h := run_lookK (P := P) (w0 := w0) i H ht hz hi k c hM
  subst hu
  simp [execOp, hx, hy, h]
theorem gop_makeMap {K V : Type} (ek : K → Value) (vk : V → Value) {d : Nat} (hlt : Nat.blt d n.n = true)
    (h : ∀ b, w0.heap.size ≤ b → gops P n w0 full rest N (upd ρ d (.map (some b))) (T ++ [mapr ek vk b []])) :
    gops P n w0 full (⟨some d, .makeMap t none, ty, pos, af, none⟩ :: rest) N ρ T :=
  gop_w (fun w hM => ⟨.map (some w.heap.size), w.alloc (.map #[] 0), by
      simp [execOp, run_makeMap], h w.heap.size hM.low.size _ (hM.add ((Below.refl _ _).alloc (Nat.le_refl _) _) ⟨#[], 0, heap_alloc_new w _, rfl⟩ (fun b hb => by
        have hb' : b = w.heap.size := hb
        subst hb'; simp))⟩) rfl rfl hlt
end
end Go.Cf
