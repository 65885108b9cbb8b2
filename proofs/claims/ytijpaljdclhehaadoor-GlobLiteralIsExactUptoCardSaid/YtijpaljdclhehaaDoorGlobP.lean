/- Common names of two parts, and the meeting of two patterns: what the searches find. Program independent. -/
import Derived.Test.YtijpaljdclhehaaDoorGlobO
import Derived.Test.YtijpaljdclhehaaDoorLibR
namespace Go.Cf
open Go.RowKit
def goalP (p q : ByteArray) : Pl := (p.size, q.size, 3)
inductive Reach (p q : ByteArray) : Pl → Prop
  | start : Reach p q (0, 0, 0)
  | step {x y : Pl} : Reach p q x → y ∈ nextL p q x → Reach p q y
/-- from a place to the end -/
inductive To (p q : ByteArray) : Pl → Prop
  | here : To p q (goalP p q)
  | step {x y : Pl} : y ∈ nextL p q x → To p q y → To p q x
def okPl (p q : ByteArray) (x : Pl) : Prop := x.1 ≤ p.size ∧ x.2.1 ≤ q.size ∧ x.2.2 ≤ 3
theorem nextL_mem {p q : ByteArray} {x y : Pl} : y ∈ nextL p q x ↔ (x.1 < p.size ∧ byteAt p x.1 = 42 ∧ y = (x.1 + 1, x.2.1, x.2.2)) ∨ (x.2.1 < q.size ∧ byteAt q x.2.1 = 42 ∧ y = (x.1, x.2.1 + 1, x.2.2)) ∨ (x.1 < p.size ∧ x.2.1 < q.size ∧ fits p q x ∧ y = (nxI p x, nxJ q x, nxD p q x)) := by
  unfold nextL nxA nxB nxC
  rw [List.mem_append, List.mem_append]
  constructor
  · rintro ((h | h) | h)
    · split at h
      · rename_i hc; exact .inl ⟨hc.1, hc.2, by simpa using h⟩
      · simp at h
    · split at h
      · rename_i hc; exact .inr (.inl ⟨hc.1, hc.2, by simpa using h⟩)
      · simp at h
    · split at h
      · rename_i hc; exact .inr (.inr ⟨hc.1, hc.2.1, hc.2.2, by simpa using h⟩)
      · simp at h
  · rintro (⟨h1, h2, h3⟩ | ⟨h1, h2, h3⟩ | ⟨h1, h2, h3, h4⟩)
    · left; left; rw [if_pos ⟨h1, h2⟩, h3]; simp
    · left; right; rw [if_pos ⟨h1, h2⟩, h3]; simp
    · right; rw [if_pos ⟨h1, h2, h3⟩, h4]; simp
theorem nxI_le {p : ByteArray} {x : Pl} : x.1 ≤ nxI p x ∧ nxI p x ≤ x.1 + 1 := by unfold nxI; split <;> omega
theorem nxJ_le {q : ByteArray} {x : Pl} : x.2.1 ≤ nxJ q x ∧ nxJ q x ≤ x.2.1 + 1 := by unfold nxJ; split <;> omega
theorem nxD_le {p q : ByteArray} {x : Pl} : nxD p q x ≤ 3 ∧ (x.2.2 ≤ 3 → x.2.2 ≤ nxD p q x) := by unfold nxD; split <;> omega
theorem next_ok {p q : ByteArray} {x y : Pl} (hx : okPl p q x) (h : y ∈ nextL p q x) : okPl p q y := by
  obtain ⟨h1, h2, h3⟩ := hx
  have i := @nxI_le p x; have j := @nxJ_le q x; have d := @nxD_le p q x
  rcases nextL_mem.1 h with ⟨a, _, rfl⟩ | ⟨a, _, rfl⟩ | ⟨a, b, _, rfl⟩
  · exact ⟨a, h2, h3⟩
  · exact ⟨h1, a, h3⟩
  · exact ⟨by show nxI p x ≤ _; omega, by show nxJ q x ≤ _; omega, d.1⟩
def rankP (p q : ByteArray) (x : Pl) : Nat := (p.size - x.1) + (q.size - x.2.1) + (3 - x.2.2)
theorem next_rank {p q : ByteArray} {x y : Pl} (hx : okPl p q x) (h : y ∈ nextL p q x) (hne : y ≠ x) : rankP p q y < rankP p q x := by
  obtain ⟨h1, h2, h3⟩ := hx
  have i := @nxI_le p x; have j := @nxJ_le q x; have d := @nxD_le p q x
  obtain ⟨x1, x2, x3⟩ := x
  rcases nextL_mem.1 h with ⟨a, _, rfl⟩ | ⟨a, _, rfl⟩ | ⟨a, b, _, rfl⟩
  · simp only [rankP] at *; omega
  · simp only [rankP] at *; omega
  · have hne' : ¬ (nxI p (x1, x2, x3) = x1 ∧ nxJ q (x1, x2, x3) = x2 ∧ nxD p q (x1, x2, x3) = x3) := fun ⟨e1, e2, e3⟩ => hne (by rw [e1, e2, e3])
    simp only [rankP] at *; omega
theorem Reach.ok {p q : ByteArray} {x : Pl} (h : Reach p q x) : okPl p q x := by
  induction h with
  | start => exact ⟨Nat.zero_le _, Nat.zero_le _, Nat.zero_le _⟩
  | step _ h ih => exact next_ok ih h
/-- the search from a place -/
def fromB (p q : ByteArray) : Nat → Pl → Bool
  | 0, _ => false
  | n + 1, x => decide (x = goalP p q) || (nextL p q x).any (fun y => decide (y ≠ x) && fromB p q n y)
def commonB (p q : ByteArray) : Bool := fromB p q (p.size + q.size + 4) (0, 0, 0)
theorem fromB_to {p q : ByteArray} : ∀ (n : Nat) (x : Pl), fromB p q n x = true → To p q x
  | 0, _, h => by simp [fromB] at h
  | n + 1, x, h => by
    rw [fromB, Bool.or_eq_true] at h
    rcases h with h | h
    · rw [of_decide_eq_true h]; exact .here
    · obtain ⟨y, hy, h1⟩ := List.any_eq_true.1 h
      rw [Bool.and_eq_true] at h1
      exact .step hy (fromB_to n y h1.2)
theorem to_fromB {p q : ByteArray} {x : Pl} (h : To p q x) : okPl p q x → ∀ n, rankP p q x < n → fromB p q n x = true := by
  induction h with
  | here =>
    intro _ n hn
    obtain ⟨m, rfl⟩ : ∃ m, n = m + 1 := ⟨n - 1, by omega⟩
    simp [fromB]
  | @step x y hy _ ih =>
    intro hx n hn
    by_cases e : y = x
    · subst e; exact ih hx n hn
    · obtain ⟨m, rfl⟩ : ∃ m, n = m + 1 := ⟨n - 1, by omega⟩
      have hr := next_rank hx hy e
      rw [fromB, Bool.or_eq_true]; right
      rw [List.any_eq_true]
      exact ⟨y, hy, by rw [Bool.and_eq_true]; exact ⟨decide_eq_true e, ih (next_ok hx hy) m (by omega)⟩⟩
theorem to_of_reach {p q : ByteArray} {x : Pl} (h : Reach p q x) : To p q x → To p q (0, 0, 0) := by
  induction h with
  | start => exact id
  | step _ hy ih => exact fun h => ih (.step hy h)
theorem reach_of_to {p q : ByteArray} {x : Pl} (h : To p q x) : Reach p q x → Reach p q (goalP p q) := by
  induction h with
  | here => exact id
  | step hy _ ih => exact fun h => ih (.step h hy)
theorem commonB_to {p q : ByteArray} : commonB p q = true ↔ To p q (0, 0, 0) :=
  ⟨fromB_to _ _, fun h => to_fromB h ⟨Nat.zero_le _, Nat.zero_le _, Nat.zero_le _⟩ _ (by simp [rankP])⟩
theorem commonB_reach {p q : ByteArray} : commonB p q = true ↔ Reach p q (goalP p q) :=
  commonB_to.trans ⟨fun h => reach_of_to h .start, fun h => to_of_reach h .here⟩
/-- what holds between two rounds of the search: l is to do, S is seen -/
structure Dfs (p q : ByteArray) (l S : List Pl) : Prop where
  nodup : S.Nodup
  reach : ∀ x, x ∈ l ∨ x ∈ S → Reach p q x
  start : (0, 0, 0) ∈ l ∨ (0, 0, 0) ∈ S
  next : ∀ x, x ∈ S → ∀ y ∈ nextL p q x, y ∈ l ∨ y ∈ S
  goal : ∀ x, x ∈ S → x ≠ goalP p q
  len : l.length ≤ 2 * S.length + 1
section
variable {p q : ByteArray} {l S : List Pl} {x : Pl}
theorem Dfs.first : Dfs p q [(0, 0, 0)] [] := ⟨List.nodup_nil, fun x hx => by simp at hx; subst hx; exact .start, by simp, by simp, by simp, by simp⟩
theorem Dfs.skip (h : Dfs p q (l ++ [x]) S) (hx : x ∈ S) : Dfs p q l S := by
  have key : ∀ y, y ∈ l ++ [x] ∨ y ∈ S → y ∈ l ∨ y ∈ S := by
    intro y hy
    rcases hy with hy | hy
    · rcases List.mem_append.1 hy with hy | hy
      · exact .inl hy
      · rw [List.mem_singleton.1 hy]; exact .inr hx
    · exact .inr hy
  exact ⟨h.nodup, fun y hy => h.reach y (hy.imp (fun h => by simp [h]) id), key _ h.start, fun a ha y hy => key y (h.next a ha y hy), h.goal, by have := h.len; simp at this; omega⟩
theorem Dfs.take (h : Dfs p q (l ++ [x]) S) (hx : x ∉ S) (hg : x ≠ goalP p q) : Dfs p q (l ++ nextL p q x) (S ++ [x]) := by
  have hr := h.reach x (.inl (by simp))
  have key : ∀ y, y ∈ l ++ [x] ∨ y ∈ S → y ∈ l ++ nextL p q x ∨ y ∈ S ++ [x] := by
    intro y hy
    rcases hy with hy | hy
    · rcases List.mem_append.1 hy with hy | hy
      · exact .inl (by simp [hy])
      · exact .inr (by simp [List.mem_singleton.1 hy])
    · exact .inr (by simp [hy])
  refine ⟨?_, ?_, key _ h.start, ?_, ?_, ?_⟩
  · rw [List.nodup_append]
    exact ⟨h.nodup, by simp, fun a ha b hb => by rw [List.mem_singleton.1 hb]; rintro rfl; exact hx ha⟩
  · rintro y (hy | hy)
    · rcases List.mem_append.1 hy with hy | hy
      · exact h.reach y (.inl (by simp [hy]))
      · exact .step hr hy
    · rcases List.mem_append.1 hy with hy | hy
      · exact h.reach y (.inr hy)
      · rw [List.mem_singleton.1 hy]; exact hr
  · intro a ha y hy
    rcases List.mem_append.1 ha with ha | ha
    · exact key y (h.next a ha y hy)
    · rw [List.mem_singleton.1 ha] at hy; exact .inl (by simp [hy])
  · intro a ha
    rcases List.mem_append.1 ha with ha | ha
    · exact h.goal a ha
    · rw [List.mem_singleton.1 ha]; exact hg
  · have h1 := h.len
    have h2 := nextL_len p q x
    simp at h1 ⊢; omega
theorem Dfs.hit (h : Dfs p q (l ++ [x]) S) (hg : x = goalP p q) : commonB p q = true :=
  commonB_reach.2 (by rw [← hg]; exact h.reach x (.inl (by simp)))
theorem Dfs.miss (h : Dfs p q [] S) : commonB p q = false := by
  cases hc : commonB p q with
  | false => rfl
  | true =>
    have key : ∀ y, Reach p q y → y ∈ S := by
      intro y hy
      induction hy with
      | start => simpa using h.start
      | step _ hz ih => simpa using h.next _ ih _ hz
    exact absurd rfl (h.goal _ (key _ (commonB_reach.1 hc)))
def allPl : List Pl := (List.range 61).flatMap fun i => (List.range 61).flatMap fun j => (List.range 4).map fun d => (i, j, d)
theorem flat_const {α β : Type} (f : α → List β) (n : Nat) : ∀ l : List α, (∀ x ∈ l, (f x).length = n) → (l.flatMap f).length = l.length * n
  | [], _ => by simp
  | a :: l, h => by
    rw [List.flatMap_cons, List.length_append, flat_const f n l (fun x hx => h x (by simp [hx])), h a (by simp), List.length_cons, Nat.add_mul]; omega
theorem allPl_len : allPl.length = 14884 := by
  unfold allPl
  rw [flat_const _ 244 _ (fun i _ => by rw [flat_const _ 4 _ (fun j _ => by simp)]; simp)]
  simp
theorem Dfs.seen (h : Dfs p q l S) (hp : p.size ≤ 60) (hq : q.size ≤ 60) : S.length ≤ 14884 := by
  rw [← allPl_len]
  refine pigeon S allPl h.nodup fun x hx => ?_
  obtain ⟨h1, h2, h3⟩ := (h.reach x (.inr hx)).ok
  obtain ⟨i, j, d⟩ := x
  simp only [allPl, List.mem_flatMap, List.mem_map, List.mem_range] at *
  exact ⟨i, by omega, j, by omega, d, by omega, rfl⟩
theorem look_seen (S : List Pl) (x : Pl) : (if false = true then .tuple #[((look (S.map fun y => (y, true)) x).map Value.bool).getD (.bool false), .bool (look (S.map fun y => (y, true)) x).isSome] else ((look (S.map fun y => (y, true)) x).map Value.bool).getD (.bool false)) = .bool (decide (x ∈ S)) := by
  rw [if_neg (by simp)]
  induction S with
  | nil => rfl
  | cons a S ih =>
    simp only [List.map_cons, look]
    by_cases h : a = x
    · subst h; simp
    · rw [if_neg h, ih]
      congr 1
      exact decide_eq_decide.2 (by simp [Ne.symm h])
theorem put_seen (S : List Pl) (x : Pl) (h : x ∉ S) : putK (S.map fun y => (y, true)) x true = (S ++ [x]).map fun y => (y, true) := by
  induction S with
  | nil => rfl
  | cons a S ih =>
    have h1 : ¬ a = x := fun e => h (by simp [e])
    simp only [List.map_cons, putK]
    rw [if_neg h1, ih (fun hx => h (by simp [hx]))]; rfl
end
/-! ### patterns -/
def ovN (p : ByteArray) (f : List ByteArray → Bool) : List ByteArray → Bool
  | [] => false
  | q :: Q => if strEq q sStars then ovN p f Q || f (q :: Q) else commonB p q && f Q
def ov : List ByteArray → List ByteArray → Bool
  | [], Q => Q.all (strEq · sStars)
  | p :: P, Q => if strEq p sStars then starW (ov P) Q else ovN p (ov P) Q
def ovAt (P N : List ByteArray) (i j : Nat) : Bool := ov (P.drop i) (N.drop j)
section
variable {P N : List ByteArray} {i j : Nat}
theorem ov_star1 (hi : i < P.length) (hs : strEq P[i] sStars = true) (h : ovAt P N (i + 1) j = true) : ovAt P N i j = true := by
  unfold ovAt at *
  rw [List.drop_eq_getElem_cons hi, ov, if_pos hs]
  cases hn : N.drop j with
  | nil => rw [hn] at h; exact h
  | cons n ns => rw [hn] at h; rw [starW, h]; rfl
theorem ov_star2 (hi : i < P.length) (hs : strEq P[i] sStars = true) (h : ovAt P N (i + 1) j = false) (hj : j < N.length) : ovAt P N i j = ovAt P N i (j + 1) := by
  unfold ovAt at *
  rw [List.drop_eq_getElem_cons hi, ov, if_pos hs, ov, if_pos hs]
  rw [List.drop_eq_getElem_cons hj] at h ⊢
  rw [starW, h, Bool.false_or]
theorem ov_star3 (hi : i < P.length) (hs : strEq P[i] sStars = true) (h : ovAt P N (i + 1) j = false) (hj : ¬ j < N.length) : ovAt P N i j = false := by
  unfold ovAt at *
  rw [List.drop_eq_getElem_cons hi, ov, if_pos hs]
  rw [List.drop_of_length_le (l := N) (by omega)] at h ⊢
  exact h
/-- the other pattern has the stars; the one does not -/
theorem ov_other (hn : i < P.length → strEq (P[i]?.getD ⟨#[]⟩) sStars = false) (hj : j < N.length) (hs : strEq N[j] sStars = true) : ovAt P N i j = (ovAt P N i (j + 1) || (decide (i < P.length) && ovAt P N (i + 1) j)) := by
  unfold ovAt
  rw [List.drop_eq_getElem_cons hj]
  by_cases hi : i < P.length
  · have h1 := hn hi
    rw [List.getElem?_eq_getElem hi] at h1
    rw [List.drop_eq_getElem_cons hi, ov, ov, if_neg (by simpa using h1), if_neg (by simpa using h1), ovN, if_pos hs, decide_eq_true hi, Bool.true_and]
  · rw [List.drop_of_length_le (l := P) (by omega), ov, ov, List.all_cons, hs, decide_eq_false hi]; simp
theorem ov_oth1 (hn : i < P.length → strEq (P[i]?.getD ⟨#[]⟩) sStars = false) (hj : j < N.length) (hs : strEq N[j] sStars = true) (h : ovAt P N i (j + 1) = true) : ovAt P N i j = true := by
  rw [ov_other hn hj hs, h]; rfl
theorem ov_oth2 (hn : i < P.length → strEq (P[i]?.getD ⟨#[]⟩) sStars = false) (hj : j < N.length) (hs : strEq N[j] sStars = true) (h : ovAt P N i (j + 1) = false) (hi : i < P.length) : ovAt P N i j = ovAt P N (i + 1) j := by
  rw [ov_other hn hj hs, h, decide_eq_true hi]; simp
theorem ov_oth3 (hn : i < P.length → strEq (P[i]?.getD ⟨#[]⟩) sStars = false) (hj : j < N.length) (hs : strEq N[j] sStars = true) (h : ovAt P N i (j + 1) = false) (hi : ¬ i < P.length) : ovAt P N i j = false := by
  rw [ov_other hn hj hs, h, decide_eq_false hi]; simp
theorem ov_both (hi : i < P.length) (hp : strEq P[i] sStars = false) (hj : j < N.length) (hq : strEq N[j] sStars = false) : ovAt P N i j = (commonB P[i] N[j] && ovAt P N (i + 1) (j + 1)) := by
  unfold ovAt
  rw [List.drop_eq_getElem_cons hi, List.drop_eq_getElem_cons hj, ov, if_neg (by simp [hp]), ovN, if_neg (by simp [hq])]
theorem ov_end (hi : ¬ i < P.length) (hj : ¬ j < N.length) : ovAt P N i j = true := by
  unfold ovAt
  rw [List.drop_of_length_le (l := P) (by omega), List.drop_of_length_le (l := N) (by omega)]; rfl
theorem ov_one (hi : i < P.length) (hp : strEq P[i] sStars = false) (hj : ¬ j < N.length) : ovAt P N i j = false := by
  unfold ovAt
  rw [List.drop_eq_getElem_cons hi, List.drop_of_length_le (l := N) (by omega), ov, if_neg (by simp [hp]), ovN]
theorem ov_two (hi : ¬ i < P.length) (hj : j < N.length) (hq : strEq N[j] sStars = false) : ovAt P N i j = false := by
  unfold ovAt
  rw [List.drop_of_length_le (l := P) (by omega), List.drop_eq_getElem_cons hj, ov, List.all_cons, hq]; rfl
end
theorem rdl_cell {w0 : World} {T : List Reg} {fr : Reg} {ad : Addr} {P : List ByteArray} {i : Nat} (k : Nat) (hk : T[k]? = some fr) (hR : ∀ w1, fr.ok w1 → Rdl w1 0 1 strCells (some ad) P) (hi : i < P.length) : Cell w0 T (ad.add (i * 1 + 0)) (.string P[i]) := fun w hM => by
  obtain ⟨ad', e, -, h⟩ := (hR w (hM.ok _ (List.mem_of_getElem? hk))).at_ hi
  cases e
  exact h 0 _ rfl
def overV (a b : ByteArray) : Bool := if patFault a = ⟨0, 0⟩ ∧ patFault b = ⟨0, 0⟩ then ov (cutS a) (cutS b) else false
def overF (a b : ByteArray) : Fault := if patFault a ≠ ⟨0, 0⟩ then patFault a else if patFault b ≠ ⟨0, 0⟩ then ⟨(patFault b).code, -2⟩ else ⟨0, 0⟩
end Go.Cf
