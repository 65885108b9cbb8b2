/- Plain lemmas on lists that the walks use. No program in sight. -/
import Derived.Test.YtijpaljdclhehaaDoorCom
namespace Go.Cf

theorem not_t {b : Bool} (h : (!b) = true) : b = false := by cases b <;> simp_all
theorem not_f {b : Bool} (h : (!b) = false) : b = true := by cases b <;> simp_all
theorem fault_ne {f : Fault} : ((!(decide (f.code = 0) && decide (f.index = 0))) = true) ↔ f ≠ ⟨0, 0⟩ := by
  cases f with | mk a b => simp; omega
theorem fault_eq {f : Fault} : ((!(decide (f.code = 0) && decide (f.index = 0))) = false) ↔ f = ⟨0, 0⟩ := by
  cases f with | mk a b => simp
theorem snoc_ind {α : Type} {Q : List α → Prop} (h0 : Q []) (h1 : ∀ l a, Q l → Q (l ++ [a])) (l : List α) : Q l := by
  have key : ∀ m : List α, Q m.reverse := by
    intro m
    induction m with
    | nil => exact h0
    | cons a m ih => rw [List.reverse_cons]; exact h1 _ a ih
  have := key l.reverse
  rwa [List.reverse_reverse] at this
theorem take_next {α : Type} (l m : List α) (k : Nat) (h1 : k < l.length) (h2 : k < m.length) (ht : l.take k = m.take k) (he : l[k] = m[k]) : l.take (k + 1) = m.take (k + 1) := by
  rw [List.take_succ_eq_append_getElem h1, List.take_succ_eq_append_getElem h2, ht, he]
theorem eq_of_takes {α : Type} {l m : List α} (hl : l.length = m.length) {k : Nat} (hk : l.length ≤ k) (ht : l.take k = m.take k) : l = m := by
  rwa [List.take_of_length_le hk, List.take_of_length_le (by omega)] at ht
theorem ne_of_at {α : Type} {l m : List α} {k : Nat} (h1 : k < l.length) (h2 : k < m.length) (h : ¬ l[k] = m[k]) : ¬ l = m := by
  intro e; subst e; exact h rfl
/-- a list that is filled from its front -/
theorem map_set {α β : Type} (f : α → β) (l : List α) (k n : Nat) (h : k < l.length) (hn : k < n) (z : β) : (l.take (k + 1)).map f ++ List.replicate (n - (k + 1)) z = ((l.take k).map f ++ List.replicate (n - k) z).set k (f l[k]) := by
  have e : n - k = (n - (k + 1)) + 1 := by omega
  rw [List.take_succ_eq_append_getElem h, List.map_append, e, List.replicate_succ, List.set_append_right _ _ (by simp; omega)]
  simp [Nat.min_eq_left (Nat.le_of_lt h)]
theorem map_same {α β : Type} (f : α → β) (l : List α) (k n : Nat) (h : k < l.length) (hn : k < n) (z : β) (hz : f l[k] = z) : (l.take (k + 1)).map f ++ List.replicate (n - (k + 1)) z = (l.take k).map f ++ List.replicate (n - k) z := by
  have e : n - k = (n - (k + 1)) + 1 := by omega
  rw [List.take_succ_eq_append_getElem h, List.map_append, e, List.replicate_succ]
  simp [hz]
theorem map_end {α β : Type} (f : α → β) (l : List α) (k n : Nat) (h : l.length ≤ k) (hn : n ≤ k) (z : β) : (l.take k).map f ++ List.replicate (n - k) z = l.map f := by
  rw [List.take_of_length_le h, Nat.sub_eq_zero_of_le hn]; simp
theorem any_take {α : Type} (p : α → Bool) (l : List α) (k : Nat) (h : k < l.length) : (l.take (k + 1)).any p = ((l.take k).any p || p l[k]) := by
  rw [List.take_succ_eq_append_getElem h, List.any_append]; simp
theorem all_false (l : List Bool) (k : Nat) (h : k < l.length) (hk : l[k] = false) : l.all id = false := by
  rw [List.all_eq_false]; exact ⟨l[k], List.getElem_mem h, by simp [hk]⟩
theorem filter_last {α : Type} (p : α → Bool) (l : List α) (k : Nat) (h : k < l.length) (hp : p l[k] = true) (hn : (l.drop (k + 1)).filter p = []) : (l.filter p).getLast? = some l[k] := by
  have e : l = l.take k ++ l[k] :: l.drop (k + 1) := by rw [← List.drop_eq_getElem_cons h, List.take_append_drop]
  have e2 : l.filter p = (l.take k).filter p ++ [l[k]] := by
    rw [congrArg (List.filter p) e, List.filter_append, List.filter_cons, if_pos hp, hn]
  rw [e2]; simp
theorem filter_take {α : Type} (p : α → Bool) (l : List α) (k : Nat) (h : k < l.length) : (l.take (k + 1)).filter p = (l.take k).filter p ++ (if p l[k] = true then [l[k]] else []) := by
  rw [List.take_succ_eq_append_getElem h, List.filter_append, List.filter_cons, List.filter_nil]
end Go.Cf
