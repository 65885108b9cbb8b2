/- Paths and patterns: plain data. Program independent. -/
import Derived.Test.YtijpaljdclhehaaDoorLibQ
namespace Go.Cf
open Go.RowKit
abbrev Bs := List UInt8
def bsOf (s : ByteArray) : Bs := s.data.toList
def baOf (l : Bs) : ByteArray := ⟨l.toArray⟩
theorem bsOf_baOf (l : Bs) : bsOf (baOf l) = l := rfl
theorem baOf_bsOf (s : ByteArray) : baOf (bsOf s) = s := by cases s; simp [baOf, bsOf]
theorem bsOf_len (s : ByteArray) : (bsOf s).length = s.size := by simp [bsOf]
theorem baOf_size (l : Bs) : (baOf l).size = l.length := by simp [baOf, ByteArray.size]
theorem bs_inj {a b : ByteArray} (h : bsOf a = bsOf b) : a = b := by rw [← baOf_bsOf a, h, baOf_bsOf]
theorem bsOf_extract (s : ByteArray) (a b : Nat) : bsOf (s.extract a b) = ((bsOf s).drop a).take (b - a) := by
  simp only [bsOf, ByteArray.data_extract, Array.toList_extract, List.extract_eq_take_drop]
theorem byteAt_bs {s : ByteArray} {i : Nat} (h : i < s.size) : (bsOf s)[i]'(by rw [bsOf_len]; exact h) = UInt8.ofNat (byteAt s i) := by
  have h' : i < (bsOf s).length := by rw [bsOf_len]; exact h
  have e : (bsOf s)[i]? = some (bsOf s)[i] := List.getElem?_eq_getElem h'
  simp only [byteAt]
  rw [show s.data.toList[i]? = some (bsOf s)[i] from e]
  simp
theorem byteAt_lt (s : ByteArray) (i : Nat) : byteAt s i < 256 := by unfold byteAt; exact UInt8.toNat_lt _
/-- the parts between slashes -/
def splitL : Bs → List Bs
  | [] => [[]]
  | c :: r => if c = 47 then [] :: splitL r else match splitL r with
    | h :: t => (c :: h) :: t
    | [] => [[c]]
theorem splitL_ne (l : Bs) : splitL l ≠ [] := by
  cases l with
  | nil => simp [splitL]
  | cons c r => simp only [splitL]; split; simp; split <;> simp
theorem splitL_none : ∀ (l : Bs), (∀ c ∈ l, c ≠ 47) → splitL l = [l]
  | [], _ => rfl
  | c :: r, h => by
    rw [splitL, if_neg (h c (by simp)), splitL_none r (fun x hx => h x (by simp [hx]))]
theorem splitL_app : ∀ (a b : Bs), (∀ c ∈ a, c ≠ 47) → splitL (a ++ 47 :: b) = a :: splitL b
  | [], b, _ => by rw [List.nil_append, splitL, if_pos rfl]
  | c :: a, b, h => by
    rw [List.cons_append, splitL, if_neg (h c (by simp)), splitL_app a b (fun x hx => h x (by simp [hx]))]
/-- the same at places of a text -/
theorem splitL_at {l : Bs} {a i : Nat} (hai : a ≤ i) (hi : i < l.length) (hc : l[i] = 47) (hn : ∀ j (h : j < l.length), a ≤ j → j < i → l[j] ≠ 47) : splitL (l.drop a) = (l.drop a).take (i - a) :: splitL (l.drop (i + 1)) := by
  have e : l.drop a = (l.drop a).take (i - a) ++ 47 :: l.drop (i + 1) := by
    have h1 : (l.drop a).drop (i - a) = l.drop i := by rw [List.drop_drop]; congr 1; omega
    rw [← hc, ← List.drop_eq_getElem_cons hi, ← h1, List.take_append_drop]
  rw [congrArg splitL e]
  refine splitL_app _ _ fun c hcm => ?_
  obtain ⟨j, hj, rfl⟩ := List.getElem_of_mem hcm
  rw [List.getElem_take, List.getElem_drop]
  simp only [List.length_take, List.length_drop] at hj
  exact hn (a + j) (by omega) (by omega) (by omega)
theorem splitL_end {l : Bs} {a : Nat} (hn : ∀ j (h : j < l.length), a ≤ j → l[j] ≠ 47) : splitL (l.drop a) = [l.drop a] := by
  refine splitL_none _ fun c hcm => ?_
  obtain ⟨j, hj, rfl⟩ := List.getElem_of_mem hcm
  rw [List.getElem_drop]
  simp only [List.length_drop] at hj
  exact hn (a + j) (by omega) (by omega)
theorem splitL_len : ∀ l : Bs, (splitL l).length ≤ l.length + 1
  | [] => by simp [splitL]
  | c :: r => by
    have ih := splitL_len r
    simp only [splitL]
    split
    · simp; omega
    · split
      · rename_i h; rw [h] at ih; simp at ih ⊢; omega
      · simp
def cutS (s : ByteArray) : List ByteArray := (splitL (bsOf s)).map baOf
/-- letters of names -/
def letterB (n : Nat) : Bool := decide ((97 ≤ n ∧ n ≤ 122) ∨ (65 ≤ n ∧ n ≤ 90) ∨ (48 ≤ n ∧ n ≤ 57) ∨ n = 46 ∨ n = 95 ∨ n = 45)
def strEq (a b : ByteArray) : Bool := a.toList == b.toList
/-- a valid name -/
def nameOk (s : ByteArray) : Bool := (List.range s.size).all (fun i => letterB (byteAt s i)) && (!strEq s ⟨#[]⟩ && !strEq s ⟨#[46]⟩ && !strEq s ⟨#[46, 46]⟩)
theorem nameOk_bad {s : ByteArray} {k : Nat} (h : k < s.size) (hl : letterB (byteAt s k) = false) : nameOk s = false := by
  unfold nameOk
  rw [Bool.and_eq_false_iff]
  left
  rw [List.all_eq_false]
  exact ⟨k, List.mem_range.2 h, by simp [hl]⟩
theorem nameOk_all {s : ByteArray} (h : ∀ j, j < s.size → letterB (byteAt s j) = true) : nameOk s = (!strEq s ⟨#[]⟩ && !strEq s ⟨#[46]⟩ && !strEq s ⟨#[46, 46]⟩) := by
  unfold nameOk
  rw [List.all_eq_true.2 (fun j hj => h j (List.mem_range.1 hj)), Bool.true_and]
def pathOk (s : ByteArray) : Bool := (cutS s).all nameOk && decide (s.size ≤ 60)
theorem cut_next {s : ByteArray} {p i : Nat} (hpi : p ≤ i) (hi : i < s.size) (hc : byteAt s i = 47) (hn : ∀ j, p ≤ j → j < i → byteAt s j ≠ 47) :
    (splitL ((bsOf s).drop p)).map baOf = s.extract p i :: (splitL ((bsOf s).drop (i + 1))).map baOf := by
  have hl : i < (bsOf s).length := by rw [bsOf_len]; exact hi
  rw [splitL_at hpi hl (by rw [byteAt_bs hi, hc]; rfl) ?_, List.map_cons]
  · congr 1
    exact bs_inj (by rw [bsOf_baOf, bsOf_extract])
  · intro j hj h1 h2 he
    rw [bsOf_len] at hj
    rw [byteAt_bs hj] at he
    have h3 := byteAt_lt s j
    have h4 := congrArg UInt8.toNat he
    simp only [UInt8.toNat_ofNat'] at h4
    refine hn j h1 h2 ?_
    have h5 : byteAt s j % 256 = 47 := h4
    omega
theorem cut_last {s : ByteArray} {p : Nat} (hn : ∀ j, p ≤ j → j < s.size → byteAt s j ≠ 47) : (splitL ((bsOf s).drop p)).map baOf = [s.extract p s.size] := by
  rw [splitL_end ?_]
  · simp only [List.map_cons, List.map_nil, List.cons.injEq, and_true]
    exact bs_inj (by rw [bsOf_baOf, bsOf_extract, List.take_of_length_le (by rw [List.length_drop, bsOf_len]; omega)])
  · intro j hj h1 he
    rw [bsOf_len] at hj
    rw [byteAt_bs hj] at he
    have h3 := byteAt_lt s j
    have h4 := congrArg UInt8.toNat he
    simp only [UInt8.toNat_ofNat'] at h4
    refine hn j h1 hj ?_
    have h5 : byteAt s j % 256 = 47 := h4
    omega
theorem cutS_len (s : ByteArray) : (cutS s).length ≤ s.size + 1 := by
  have := splitL_len (bsOf s)
  rw [bsOf_len] at this
  simpa [cutS] using this
theorem splitL_part : ∀ (l : Bs) (p : Bs), p ∈ splitL l → p.length ≤ l.length
  | [], p, h => by simp [splitL] at h; simp [h]
  | c :: r, p, h => by
    have ih := splitL_part r
    simp only [splitL] at h
    split at h
    · rcases List.mem_cons.1 h with rfl | h
      · simp
      · have := ih p h; simp; omega
    · split at h
      · rename_i hh tt he
        rcases List.mem_cons.1 h with rfl | h
        · have := ih hh (by rw [he]; simp); simp; omega
        · have := ih p (by rw [he]; simp [h]); simp; omega
      · rw [List.mem_singleton.1 h]; simp
theorem cutS_size {s x : ByteArray} (h : x ∈ cutS s) {n : Nat} (hs : s.size ≤ n) : x.size ≤ n := by
  obtain ⟨p, hp, rfl⟩ := List.mem_map.1 h
  have := splitL_part _ _ hp
  rw [bsOf_len] at this
  rw [baOf_size]; omega
/-! ### patterns -/
abbrev sStars : ByteArray := ⟨#[42, 42]⟩
def wildBad (s : ByteArray) (i : Nat) : Bool := decide (byteAt s i = 42) && (decide (0 < i) && decide (byteAt s (i - 1) = 42))
def charBad (s : ByteArray) (i : Nat) : Bool := decide (byteAt s i ≠ 42) && (decide (byteAt s i ≠ 63) && !letterB (byteAt s i))
/-- the error of the characters from place size - m on -/
def scanP (s : ByteArray) : Nat → Nat
  | 0 => 0
  | m + 1 => if wildBad s (s.size - (m + 1)) then 1 else if charBad s (s.size - (m + 1)) then 12 else scanP s m
theorem scanP_at {s : ByteArray} {k : Nat} (h : k < s.size) : scanP s (s.size - k) = if wildBad s k then 1 else if charBad s k then 12 else scanP s (s.size - (k + 1)) := by
  obtain ⟨m, hm⟩ : ∃ m, s.size - k = m + 1 := ⟨s.size - k - 1, by omega⟩
  rw [hm, scanP, show s.size - (m + 1) = k by omega, show s.size - (k + 1) = m by omega]
theorem scanP_step {s : ByteArray} {k : Nat} (h : k < s.size) (hw : wildBad s k = false) (hc : charBad s k = false) : scanP s (s.size - (k + 1)) = scanP s (s.size - k) := by
  rw [scanP_at h, hw, hc]; rfl
theorem scanP_wild {s : ByteArray} {k : Nat} (h : k < s.size) (hw : wildBad s k = true) : scanP s (s.size - k) = 1 := by
  rw [scanP_at h, hw]; rfl
theorem scanP_char {s : ByteArray} {k : Nat} (h : k < s.size) (hw : wildBad s k = false) (hc : charBad s k = true) : scanP s (s.size - k) = 12 := by
  rw [scanP_at h, hw, hc]; rfl
theorem scanP_end {s : ByteArray} : scanP s (s.size - s.size) = 0 := by rw [Nat.sub_self]; rfl
def dotty (s : ByteArray) : Bool := strEq s ⟨#[]⟩ || (strEq s ⟨#[46]⟩ || strEq s ⟨#[46, 46]⟩)
def partCode (s : ByteArray) : Nat := if dotty s then 12 else if strEq s sStars then 0 else scanP s s.size
def partsCode : List ByteArray → Nat
  | [] => 0
  | p :: l => if partCode p = 0 then partsCode l else partCode p
def patCode (s : ByteArray) : Nat := if 60 < s.size then 2 else partsCode (cutS s)
theorem partsCode_zero : ∀ {l : List ByteArray}, (∀ j (h : j < l.length), partCode l[j] = 0) → partsCode l = 0
  | [], _ => rfl
  | p :: l, h => by
    rw [partsCode, if_pos (show partCode p = 0 from h 0 (by simp))]
    exact partsCode_zero fun j hj => h (j + 1) (by simpa using hj)
theorem partsCode_hit : ∀ {l : List ByteArray} {k : Nat} {x : ByteArray}, l[k]? = some x → (∀ j (h : j < l.length), j < k → partCode l[j] = 0) → partCode x ≠ 0 → partsCode l = partCode x
  | [], k, x, h, _, _ => by simp at h
  | p :: l, 0, x, h, _, hn => by
    simp at h; subst h
    rw [partsCode, if_neg hn]
  | p :: l, k + 1, x, h, hz, hn => by
    rw [partsCode, if_pos (show partCode p = 0 from hz 0 (by simp) (by omega))]
    exact partsCode_hit (by simpa using h) (fun j hj hk => hz (j + 1) (by simpa using hj) (by omega)) hn
/-- what Validate answers -/
def patFault (s : ByteArray) : Fault := if patCode s = 0 then ⟨0, 0⟩ else ⟨patCode s, -1⟩
/-! ### cuts, as the library makes them -/
theorem list_hit : ∀ l : Bs, 0 < l.count 47 → ∃ m : Nat, Lib.indexByte l 47 = m ∧ m < l.length ∧ splitL l = l.take m :: splitL (l.drop (m + 1)) ∧ (l.drop (m + 1)).count 47 + 1 = l.count 47
  | [], h => by simp at h
  | c :: r, h => by
    by_cases hc : c = 47
    · subst hc
      exact ⟨0, by simp [Lib.indexByte], by simp, by simp [splitL], by simp⟩
    · have hr : 0 < r.count 47 := by simpa [List.count_cons, hc] using h
      obtain ⟨m, h1, h2, h3, h4⟩ := list_hit r hr
      refine ⟨m + 1, ?_, by simp; omega, ?_, ?_⟩
      · have : ¬ ((m : Int) == -1) = true := by simp
        simp only [Lib.indexByte, h1]
        rw [if_neg (by simpa using hc), if_neg this]; simp
      · rw [splitL, if_neg hc, h3]; simp
      · simpa [List.count_cons, hc] using h4
theorem list_miss : ∀ l : Bs, l.count 47 = 0 → Lib.indexByte l 47 = -1
  | [], _ => rfl
  | c :: r, h => by
    have hc : ¬ c = 47 := fun e => by subst e; simp at h
    have hr : r.count 47 = 0 := by simpa [List.count_cons, hc] using h
    simp only [Lib.indexByte, list_miss r hr]
    rw [if_neg (by simpa using hc), if_pos (by decide)]
def slashes (s : ByteArray) : Nat := Lib.countByte s.data.toList 47
theorem slashes_le (s : ByteArray) : slashes s ≤ s.size := by
  have := List.count_le_length (a := (47 : UInt8)) (l := s.data.toList)
  simpa [slashes, Lib.countByte] using this
theorem idx_hit {s : ByteArray} (h : 0 < slashes s) : ∃ m : Nat, Lib.indexByte s.data.toList 47 = m ∧ m < s.size ∧ cutS s = s.extract 0 m :: cutS (s.extract (m + 1) s.size) ∧ slashes (s.extract (m + 1) s.size) + 1 = slashes s := by
  obtain ⟨m, h1, h2, h3, h4⟩ := list_hit (bsOf s) h
  have e : bsOf (s.extract (m + 1) s.size) = (bsOf s).drop (m + 1) := by
    rw [bsOf_extract, List.take_of_length_le (by rw [List.length_drop, bsOf_len]; omega)]
  rw [bsOf_len] at h2
  refine ⟨m, h1, h2, ?_, ?_⟩
  · unfold cutS
    rw [h3, e, List.map_cons]
    congr 1
    exact bs_inj (by rw [bsOf_baOf, bsOf_extract]; simp)
  · show (bsOf (s.extract (m + 1) s.size)).count 47 + 1 = (bsOf s).count 47
    rw [e]; exact h4
theorem idx_miss {s : ByteArray} (h : slashes s = 0) : Lib.indexByte s.data.toList 47 = -1 ∧ cutS s = [s] := by
  refine ⟨list_miss _ h, ?_⟩
  unfold cutS
  rw [splitL_none _ (fun c hc e => by subst e; exact absurd h (Nat.ne_of_gt (List.count_pos_iff.2 hc)))]
  simp [baOf_bsOf]
theorem set_pre {α : Type} {pre : List α} {n : Nat} {x e : α} (h : pre.length < n) : (pre ++ List.replicate (n - pre.length) e).set pre.length x = (pre ++ [x]) ++ List.replicate (n - (pre ++ [x]).length) e := by
  obtain ⟨m, hm⟩ : ∃ m, n - pre.length = m + 1 := ⟨n - pre.length - 1, by omega⟩
  rw [hm, List.set_append_right _ _ (Nat.le_refl _), Nat.sub_self, List.replicate_succ, List.set_cons_zero, show n - (pre ++ [x]).length = m by simp; omega]
  simp
theorem drop_head {α : Type} {l : List α} {k : Nat} {x : α} {r : List α} (h : l.drop k = x :: r) : l[k]? = some x ∧ l.drop (k + 1) = r := by
  have h1 := congrArg (fun q => q[0]?) h
  have h2 := congrArg (fun q => q.drop 1) h
  simp at h1 h2
  exact ⟨h1, by rw [← h2, Nat.add_comm]⟩
end Go.Cf
