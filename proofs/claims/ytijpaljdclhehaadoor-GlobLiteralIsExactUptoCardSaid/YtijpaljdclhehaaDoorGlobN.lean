/- Names and parts: what the matching of a part computes, row by row; the plain law. Program independent. -/
import Derived.Test.YtijpaljdclhehaaDoorGlobM
namespace Go.Cf
open Go.RowKit
theorem box_cell {b off : Nat} {cs : Array Value} {e : TypeId} {fz : Nat × Nat} {v : Value} {w : World} (h : (box b (.cells cs e fz)).ok w) (hc : cs[off]? = some v) : w.cell? ⟨b, off, none⟩ = some v := by
  have h' : w.heap[b]? = some (.cells cs e fz) := h
  simp [World.cell?, h', hc]
/-- places behind stars, up to place k -/
def starsTo (p : ByteArray) (l : List Bool) : Nat → List Bool
  | 0 => l
  | k + 1 => if byteAt p k = 42 ∧ (starsTo p l k)[k]? = some true then (starsTo p l k).set (k + 1) true else starsTo p l k
theorem starsTo_len (p : ByteArray) (l : List Bool) : ∀ k, (starsTo p l k).length = l.length
  | 0 => rfl
  | k + 1 => by rw [starsTo]; split <;> simp [starsTo_len p l k]
theorem starsTo_yes {p : ByteArray} {l : List Bool} {k : Nat} (h1 : byteAt p k = 42) (h2 : (starsTo p l k)[k]? = some true) : (starsTo p l k).set (k + 1) true = starsTo p l (k + 1) := by
  rw [starsTo, if_pos ⟨h1, h2⟩]
theorem starsTo_no {p : ByteArray} {l : List Bool} {k : Nat} (h : ¬ (byteAt p k = 42 ∧ (starsTo p l k)[k]? = some true)) : starsTo p l k = starsTo p l (k + 1) := by
  rw [starsTo, if_neg h]
/-- places behind the next character, from the places below i -/
def nextTo (p : ByteArray) (c : Nat) (l : List Bool) : Nat → List Bool
  | 0 => List.replicate (p.size + 1) false
  | i + 1 => if l[i]? = some true then
      if byteAt p i = 42 then (nextTo p c l i).set i true else if byteAt p i = 63 ∨ byteAt p i = c then (nextTo p c l i).set (i + 1) true else nextTo p c l i
    else nextTo p c l i
theorem nextTo_len (p : ByteArray) (c : Nat) (l : List Bool) : ∀ k, (nextTo p c l k).length = p.size + 1
  | 0 => by simp [nextTo]
  | k + 1 => by
    have ih := nextTo_len p c l k
    rw [nextTo]; (repeat' split) <;> simp [ih]
section
variable {p : ByteArray} {c i : Nat} {l : List Bool}
theorem nextTo_off (h : l[i]? = some false) : nextTo p c l i = nextTo p c l (i + 1) := by
  rw [nextTo, if_neg (by rw [h]; simp)]
theorem nextTo_star (h : l[i]? = some true) (h2 : byteAt p i = 42) : (nextTo p c l i).set i true = nextTo p c l (i + 1) := by
  rw [nextTo, if_pos h, if_pos h2]
theorem nextTo_char (h : l[i]? = some true) (h2 : byteAt p i ≠ 42) (h3 : byteAt p i = 63 ∨ byteAt p i = c) : (nextTo p c l i).set (i + 1) true = nextTo p c l (i + 1) := by
  rw [nextTo, if_pos h, if_neg h2, if_pos h3]
theorem nextTo_miss (h : l[i]? = some true) (h2 : byteAt p i ≠ 42) (h3 : ¬ (byteAt p i = 63 ∨ byteAt p i = c)) : nextTo p c l i = nextTo p c l (i + 1) := by
  rw [nextTo, if_pos h, if_neg h2, if_neg h3]
end
def nameRun (p s : ByteArray) : Nat → List Bool
  | 0 => starsTo p (true :: List.replicate p.size false) p.size
  | k + 1 => starsTo p (nextTo p (byteAt s k) (nameRun p s k) p.size) p.size
theorem nameRun_len (p s : ByteArray) : ∀ k, (nameRun p s k).length = p.size + 1
  | 0 => by rw [nameRun, starsTo_len]; simp
  | k + 1 => by rw [nameRun, starsTo_len, nextTo_len]
def nameM (p s : ByteArray) : Bool := (nameRun p s s.size)[p.size]?.getD false
/-! ### paths -/
def starW (f : List ByteArray → Bool) : List ByteArray → Bool
  | [] => f []
  | n :: ns => f (n :: ns) || starW f ns
def nameW (p : ByteArray) (f : List ByteArray → Bool) : List ByteArray → Bool
  | [] => false
  | n :: ns => nameM p n && f ns
def wk : List ByteArray → List ByteArray → Bool
  | [], ns => ns.isEmpty
  | p :: ps, ns => if strEq p sStars then starW (wk ps) ns else nameW p (wk ps) ns
def wkAt (P N : List ByteArray) (i j : Nat) : Bool := wk (P.drop i) (N.drop j)
section
variable {P N : List ByteArray} {i j : Nat}
theorem wk_end (hj : j ≤ N.length) : wkAt P N P.length j = decide ((j : Int) = N.length) := by
  unfold wkAt
  rw [List.drop_length, wk]
  by_cases h : j = N.length
  · subst h; simp
  · have h1 : j < N.length := by omega
    rw [List.drop_eq_getElem_cons h1]
    rw [decide_eq_false (by omega)]; rfl
theorem wk_star1 (hi : i < P.length) (hs : strEq P[i] sStars = true) (h : wkAt P N (i + 1) j = true) : wkAt P N i j = true := by
  unfold wkAt at *
  rw [List.drop_eq_getElem_cons hi, wk, if_pos hs]
  cases hn : N.drop j with
  | nil => rw [hn] at h; exact h
  | cons n ns => rw [hn] at h; rw [starW, h]; rfl
theorem wk_star2 (hi : i < P.length) (hs : strEq P[i] sStars = true) (h : wkAt P N (i + 1) j = false) (hj : j < N.length) : wkAt P N i j = wkAt P N i (j + 1) := by
  unfold wkAt at *
  rw [List.drop_eq_getElem_cons hi, wk, if_pos hs, wk, if_pos hs]
  rw [List.drop_eq_getElem_cons hj] at h ⊢
  rw [starW, h, Bool.false_or]
theorem wk_star3 (hi : i < P.length) (hs : strEq P[i] sStars = true) (h : wkAt P N (i + 1) j = false) (hj : ¬ j < N.length) : wkAt P N i j = false := by
  unfold wkAt at *
  rw [List.drop_eq_getElem_cons hi, wk, if_pos hs]
  rw [List.drop_of_length_le (l := N) (by omega)] at h ⊢
  exact h
theorem wk_name (hi : i < P.length) (hs : strEq P[i] sStars = false) (hj : j < N.length) : wkAt P N i j = (nameM P[i] N[j] && wkAt P N (i + 1) (j + 1)) := by
  unfold wkAt
  rw [List.drop_eq_getElem_cons hi, List.drop_eq_getElem_cons hj, wk, if_neg (by simp [hs]), nameW]
theorem wk_name0 (hi : i < P.length) (hs : strEq P[i] sStars = false) (hj : ¬ j < N.length) : wkAt P N i j = false := by
  unfold wkAt
  rw [List.drop_eq_getElem_cons hi, List.drop_of_length_le (l := N) (by omega), wk, if_neg (by simp [hs]), nameW]
end
theorem patFault_size {p : ByteArray} (h : patFault p = ⟨0, 0⟩) : p.size ≤ 60 := by
  unfold patFault patCode at h
  by_cases h1 : 60 < p.size
  · simp [h1] at h
  · omega
theorem pathOk_size {s : ByteArray} (h : pathOk s = true) : s.size ≤ 60 := by
  unfold pathOk at h
  rw [Bool.and_eq_true] at h
  exact of_decide_eq_true h.2
def matchV (p s : ByteArray) : Bool := if patFault p = ⟨0, 0⟩ ∧ pathOk s = true then wk (cutS p) (cutS s) else false
def matchF (p s : ByteArray) : Fault := if patFault p ≠ ⟨0, 0⟩ then patFault p else if pathOk s then ⟨0, 0⟩ else ⟨12, -2⟩
/-! ### what is remembered -/
def MemoOk (f : Nat → Nat → Bool) (l : List ((Nat × Nat) × Bool)) : Prop := ∀ i j b, look l (i, j) = some b → b = f i j
theorem memo_nil (f : Nat → Nat → Bool) : MemoOk f [] := fun _ _ _ h => by simp [look] at h
theorem memo_put {f : Nat → Nat → Bool} {l : List ((Nat × Nat) × Bool)} (h : MemoOk f l) (i j : Nat) : MemoOk f (putK l (i, j) (f i j)) := fun a b c hc => by
  rw [look_put] at hc
  split at hc
  · rename_i e; cases e; cases hc; rfl
  · exact h a b c hc
theorem memo_hit {f : Nat → Nat → Bool} {l : List ((Nat × Nat) × Bool)} (h : MemoOk f l) {i j : Nat} (hs : (look l (i, j)).isSome = true) : (look l (i, j)).getD false = f i j := by
  obtain ⟨b, hb⟩ := Option.isSome_iff_exists.1 hs
  rw [hb]; exact h i j b hb
section
end
end Go.Cf
