/- Own frame, plain models and walks, part 2 (texts of this claim put together). -/
import Derived.Test.YtijpaljdclhehaaDoorP27a
import Derived.Carry
import Derived.ChangeOld
import Derived.Deep.CondSized
import Derived.Deep.Slices
import Derived.OpenShut
import Derived.ProofKit
import Derived.SizedLaws
import Derived.Test.YtijpaljdclhehaaDoorProg
namespace Go.Cf
open Go.RowKit
def dpStep (star : Bool) (g : Nat → Bool) (f : Nat → Bool) : Nat → Bool
  | 0 => star && f 0
  | k + 1 => if star then f (k + 1) || dpStep star g f k else f k && g k
def dp (star : Nat → Bool) (g : Nat → Nat → Bool) : Nat → Nat → Bool
  | 0 => fun k => decide (k = 0)
  | i + 1 => dpStep (star i) (g i) (dp star g i)
def dpRow (n : Nat) (f : Nat → Bool) : List Bool := (List.range (n + 1)).map f
def dpPart (n k : Nat) (f : Nat → Bool) : List Bool := (List.range (n + 1)).map (fun j => decide (j < k) && f j)
section
variable {n k j : Nat} {f : Nat → Bool} {star : Bool} {g : Nat → Bool}
theorem dpRow_len (n : Nat) (f : Nat → Bool) : (dpRow n f).length = n + 1 := by simp [dpRow]
theorem dpPart_len (n k : Nat) (f : Nat → Bool) : (dpPart n k f).length = n + 1 := by simp [dpPart]
theorem dpRow_get (h : k ≤ n) : (dpRow n f)[k]? = some (f k) := by
  simp [dpRow, show k < n + 1 by omega]
theorem dpPart_get (h : j < k) (hk : j ≤ n) : (dpPart n k f)[j]? = some (f j) := by
  simp [dpPart, show j < n + 1 by omega, h]
theorem dpPart_at (hk : j ≤ n) : (dpPart n j f)[j]? = some false := by
  simp [dpPart, show j < n + 1 by omega]
theorem dpPart_set (hk : k ≤ n) : (dpPart n k f).set k (f k) = dpPart n (k + 1) f := by
  refine List.ext_getElem? fun i => ?_
  rw [List.getElem?_set, dpPart_len]
  by_cases h : k = i
  · subst h
    rw [if_pos rfl, if_pos (by omega), dpPart_get (Nat.lt_succ_self _) hk]
  · rw [if_neg h]
    simp only [dpPart, List.getElem?_map]
    rcases Nat.lt_or_ge i (n + 1) with h1 | h1
    · rw [List.getElem?_range h1]
      simp only [Option.map_some, Option.some.injEq]
      rw [show decide (i < k + 1) = decide (i < k) from decide_eq_decide.2 (by omega)]
    · rw [List.getElem?_eq_none (by simpa using h1)]; rfl
theorem dpPart_put {v : Bool} (hk : k ≤ n) (hv : f k = v) : (dpPart n k f).set k v = dpPart n (k + 1) f := by
  rw [← hv]; exact dpPart_set hk
theorem dpPart_zero (n : Nat) (f : Nat → Bool) : dpPart n 0 f = List.replicate (n + 1) false := by
  refine List.ext_getElem? fun i => ?_
  simp only [dpPart, List.getElem?_map, List.getElem?_replicate]
  split
  · rename_i h; rw [List.getElem?_range h]; simp
  · rename_i h; rw [List.getElem?_eq_none (by simpa using h)]; rfl
theorem dpPart_full (n : Nat) (f : Nat → Bool) : dpPart n (n + 1) f = dpRow n f := by
  simp only [dpPart, dpRow]
  refine List.map_congr_left fun a ha => ?_
  rw [decide_eq_true (List.mem_range.1 ha), Bool.true_and]
theorem dp_first (n : Nat) (star : Nat → Bool) (g : Nat → Nat → Bool) : (List.replicate (n + 1) false).set 0 true = dpRow n (dp star g 0) := by
  rw [List.replicate_succ, List.set_cons_zero]
  refine List.ext_getElem? fun i => ?_
  simp only [dpRow, List.getElem?_map]
  cases i with
  | zero => simp [dp]
  | succ i =>
    simp only [List.getElem?_cons_succ, List.getElem?_replicate]
    split
    · rename_i h; rw [List.getElem?_range (by omega)]; simp [dp]
    · rename_i h; rw [List.getElem?_eq_none (by simpa using h)]; rfl
theorem dpStep_yes (h : f k = true) : dpStep true g f k = true := by cases k <;> simp [dpStep, h]
theorem dpStep_more (h : f k = false) (hk : 0 < k) : dpStep true g f k = dpStep true g f (k - 1) := by
  obtain ⟨m, rfl⟩ : ∃ m, k = m + 1 := ⟨k - 1, by omega⟩
  simp [dpStep, h]
theorem dpStep_no (h : f k = false) (hk : ¬ 0 < k) : dpStep true g f k = false := by
  obtain rfl : k = 0 := by omega
  simp [dpStep, h]
theorem dpStep_c0 (hk : ¬ 0 < k) : dpStep false g f k = false := by
  obtain rfl : k = 0 := by omega
  simp [dpStep]
theorem dpStep_ch (hk : 0 < k) : dpStep false g f k = (f (k - 1) && g (k - 1)) := by
  obtain ⟨m, rfl⟩ : ∃ m, k = m + 1 := ⟨k - 1, by omega⟩
  simp [dpStep]
end
section
variable {star : Nat → Bool} {g : Nat → Nat → Bool} {i k : Nat}
theorem dp_yes (hs : star i = true) (h : dp star g i k = true) : dp star g (i + 1) k = true := by
  show dpStep (star i) (g i) (dp star g i) k = true
  rw [hs]; exact dpStep_yes h
theorem dp_more (hs : star i = true) (h : dp star g i k = false) (hk : 0 < k) : dp star g (i + 1) k = dp star g (i + 1) (k - 1) := by
  show dpStep (star i) (g i) (dp star g i) k = dpStep (star i) (g i) (dp star g i) (k - 1)
  rw [hs]; exact dpStep_more h hk
theorem dp_no (hs : star i = true) (h : dp star g i k = false) (hk : ¬ 0 < k) : dp star g (i + 1) k = false := by
  show dpStep (star i) (g i) (dp star g i) k = false
  rw [hs]; exact dpStep_no h hk
theorem dp_c0 (hs : star i = false) (hk : ¬ 0 < k) : dp star g (i + 1) k = false := by
  show dpStep (star i) (g i) (dp star g i) k = false
  rw [hs]; exact dpStep_c0 hk
theorem dp_ct (hs : star i = false) (hk : 0 < k) (h : dp star g i (k - 1) = true) : dp star g (i + 1) k = g i (k - 1) := by
  show dpStep (star i) (g i) (dp star g i) k = _
  rw [hs, dpStep_ch hk, h, Bool.true_and]
theorem dp_cf (hs : star i = false) (hk : 0 < k) (h : dp star g i (k - 1) = false) : dp star g (i + 1) k = false := by
  show dpStep (star i) (g i) (dp star g i) k = _
  rw [hs, dpStep_ch hk, h, Bool.false_and]
end
inductive Dp (star : Nat → Bool) (g : Nat → Nat → Bool) : Nat → Nat → Prop
  | start : Dp star g 0 0
  | skip {i k : Nat} : Dp star g i k → star i = true → Dp star g (i + 1) k
  | eat {i k : Nat} : Dp star g (i + 1) k → star i = true → Dp star g (i + 1) (k + 1)
  | char {i k : Nat} : Dp star g i k → star i = false → g i k = true → Dp star g (i + 1) (k + 1)
section
variable {star : Nat → Bool} {g : Nat → Nat → Bool}
theorem dp_sound : ∀ (i k : Nat), dp star g i k = true → Dp star g i k
  | 0, k, h => by
    simp [dp] at h; subst h; exact .start
  | i + 1, 0, h => by
    simp [dp, dpStep] at h
    exact .skip (dp_sound i 0 h.2) h.1
  | i + 1, k + 1, h => by
    have h0 : dpStep (star i) (g i) (dp star g i) (k + 1) = true := h
    rw [dpStep] at h0
    cases hs : star i with
    | true =>
      rw [hs] at h0
      rw [if_pos rfl, Bool.or_eq_true] at h0
      rcases h0 with h1 | h1
      · exact .skip (dp_sound i (k + 1) h1) hs
      · exact .eat (dp_sound (i + 1) k (by show dpStep (star i) _ _ k = true; rw [hs]; exact h1)) hs
    | false =>
      rw [hs, if_neg (by simp), Bool.and_eq_true] at h0
      exact .char (dp_sound i k h0.1) hs h0.2
theorem dp_complete {i k : Nat} (h : Dp star g i k) : dp star g i k = true := by
  induction h with
  | start => rfl
  | @skip i k _ hs ih =>
    show dpStep (star i) (g i) (dp star g i) k = true
    rw [hs]; exact dpStep_yes ih
  | @eat i k _ hs ih =>
    have ih' : dpStep (star i) (g i) (dp star g i) k = true := ih
    show dpStep (star i) (g i) (dp star g i) (k + 1) = true
    rw [hs] at ih' ⊢
    simp [dpStep, ih']
  | @char i k _ hs hg ih =>
    show dpStep (star i) (g i) (dp star g i) (k + 1) = true
    rw [hs]; simp [dpStep, ih, hg]
theorem dp_iff {i k : Nat} : dp star g i k = true ↔ Dp star g i k := ⟨dp_sound i k, dp_complete⟩
end
def starP (p : ByteArray) (i : Nat) : Bool := decide (byteAt p i = 42)
def charP (p s : ByteArray) (i k : Nat) : Bool := decide (byteAt p i = 63) || decide (byteAt p i = byteAt s k)
theorem byteAt_end (p : ByteArray) : byteAt p p.size = 0 := by
  unfold byteAt
  rw [List.getElem?_eq_none (by simp)]; rfl
theorem pm_dp {p s : ByteArray} {i k : Nat} (h : Pm p s i k) : Dp (starP p) (charP p s) i k ∨ (starP p i = true ∧ Dp (starP p) (charP p s) (i + 1) k) := by
  induction h with
  | start => exact .inl .start
  | @star i k _ hi hc ih =>
    rcases ih with h | ⟨_, h⟩
    · exact .inl (.skip h (by simp [starP, hc]))
    · exact .inl h
  | @eat i k _ hi hk hc ih =>
    have hs : starP p i = true := by simp [starP, hc]
    rcases ih with h | ⟨_, h⟩
    · exact .inr ⟨hs, .eat (.skip h hs) hs⟩
    · exact .inr ⟨hs, .eat h hs⟩
  | @char i k _ hi hk hc hd ih =>
    have hs : starP p i = false := by simp [starP, hc]
    rcases ih with h | ⟨h, _⟩
    · exact .inl (.char h hs (by simpa [charP] using hd))
    · rw [hs] at h; cases h
theorem dp_pm {p s : ByteArray} {i k : Nat} (h : Dp (starP p) (charP p s) i k) : i ≤ p.size → k ≤ s.size → Pm p s i k ∧ ∀ j, i = j + 1 → starP p j = true → Pm p s j k := by
  induction h with
  | start => exact fun _ _ => ⟨.start, fun j h => by omega⟩
  | @skip i k _ hs ih =>
    intro hi hk
    have h1 := (ih (by omega) hk).1
    refine ⟨.star h1 (by omega) (by simpa [starP] using hs), fun j hj _ => ?_⟩
    obtain rfl : i = j := by omega
    exact h1
  | @eat i k _ hs ih =>
    intro hi hk
    have hc : byteAt p i = 42 := by simpa [starP] using hs
    have h1 := (ih hi (by omega)).2 i rfl hs
    have h2 : Pm p s i (k + 1) := .eat h1 (by omega) (by omega) hc
    refine ⟨.star h2 (by omega) hc, fun j hj _ => ?_⟩
    obtain rfl : i = j := by omega
    exact h2
  | @char i k _ hs hg ih =>
    intro hi hk
    have hc : byteAt p i ≠ 42 := by simpa [starP] using hs
    refine ⟨.char (ih (by omega) (by omega)).1 (by omega) (by omega) hc (by simpa [charP] using hg), fun j hj hs' => ?_⟩
    obtain rfl : i = j := by omega
    rw [hs] at hs'; cases hs'
theorem dp_name (p s : ByteArray) : dp (starP p) (charP p s) p.size s.size = nameM p s := by
  rw [Bool.eq_iff_iff, dp_iff, nameM_pm]
  constructor
  · intro h; exact (dp_pm h (Nat.le_refl _) (Nat.le_refl _)).1
  · intro h
    rcases pm_dp h with h | ⟨h, _⟩
    · exact h
    · simp [starP, byteAt_end] at h
def starW2 (P : List ByteArray) (i : Nat) : Bool := strEq (P[i]?.getD ⟨#[]⟩) sStars
def charW (P N : List ByteArray) (i k : Nat) : Bool := nameM (P[i]?.getD ⟨#[]⟩) (N[k]?.getD ⟨#[]⟩)
section
variable {P N : List ByteArray}
theorem starW2_at {i : Nat} (h : i < P.length) : starW2 P i = strEq P[i] sStars := by rw [starW2, List.getElem?_eq_getElem h]; rfl
theorem charW_at {i k : Nat} (h : i < P.length) (h2 : k < N.length) : charW P N i k = nameM P[i] N[k] := by rw [charW, List.getElem?_eq_getElem h, List.getElem?_eq_getElem h2]; rfl
theorem starW2_lt {i : Nat} (h : starW2 P i = true) : i < P.length := by
  rcases Nat.lt_or_ge i P.length with h1 | h1
  · exact h1
  · rw [starW2, List.getElem?_eq_none h1] at h; exact absurd (strEq_eq.1 h) (fun e => by have h2 := congrArg ByteArray.size e; exact absurd h2 (by decide))
theorem dp_wk_from {i k : Nat} (h : Dp (starW2 P) (charW P N) i k) : i ≤ P.length → k ≤ N.length → (Wk (P.drop i) (N.drop k) → Wk P N) ∧ ∀ j, i = j + 1 → starW2 P j = true → Wk (P.drop j) (N.drop k) → Wk P N := by
  induction h with
  | start => exact fun _ _ => ⟨fun h => by simpa using h, fun j h => by omega⟩
  | @skip i k _ hs ih =>
    intro hi hk
    have h1 := (ih (by omega) hk).1
    refine ⟨fun h => h1 ?_, fun j hj _ h => ?_⟩
    · rw [List.drop_eq_getElem_cons (show i < P.length by omega)]
      exact .skip (by rw [← starW2_at]; exact hs) h
    · obtain rfl : i = j := by omega
      exact h1 h
  | @eat i k _ hs ih =>
    intro hi hk
    have hi' : i < P.length := by omega
    have hk' : k < N.length := by omega
    have h2 := (ih hi (by omega)).2 i rfl hs
    have hst : strEq P[i] sStars = true := by rw [← starW2_at]; exact hs
    have h3 : Wk (P.drop i) (N.drop (k + 1)) → Wk P N := fun h => h2 (by
      rw [List.drop_eq_getElem_cons hi'] at h ⊢
      rw [List.drop_eq_getElem_cons hk']
      exact .eat hst h)
    refine ⟨fun h => h3 ?_, fun j hj _ h => ?_⟩
    · rw [List.drop_eq_getElem_cons hi']; exact .skip hst h
    · obtain rfl : i = j := by omega
      exact h3 h
  | @char i k _ hs hg ih =>
    intro hi hk
    have hi' : i < P.length := by omega
    have hk' : k < N.length := by omega
    have h1 := (ih (by omega) (by omega)).1
    refine ⟨fun h => h1 ?_, fun j hj hs' h => ?_⟩
    · rw [List.drop_eq_getElem_cons hi', List.drop_eq_getElem_cons hk']
      exact .name (by rw [← starW2_at]; exact hs) (by rw [← charW_at]; exact hg) h
    · obtain rfl : i = j := by omega
      rw [hs] at hs'; cases hs'
theorem wk_dp_to {P' N' : List ByteArray} (h : Wk P' N') : ∀ i k, i ≤ P.length → k ≤ N.length → P' = P.drop i → N' = N.drop k → (Dp (starW2 P) (charW P N) i k ∨ (starW2 P i = true ∧ Dp (starW2 P) (charW P N) (i + 1) k)) → Dp (starW2 P) (charW P N) P.length N.length := by
  induction h with
  | nil =>
    intro i k hi hk h1 h2 h3
    have e1 := congrArg List.length h1
    have e2 := congrArg List.length h2
    simp at e1 e2
    obtain rfl : i = P.length := by omega
    obtain rfl : k = N.length := by omega
    rcases h3 with h3 | ⟨h3, _⟩
    · exact h3
    · exact absurd (starW2_lt h3) (Nat.lt_irrefl _)
  | @skip p P1 N1 hp _ ih =>
    intro i k hi hk h1 h2 h3
    have hl : i < P.length := by
      have e1 := congrArg List.length h1
      simp at e1; omega
    rw [List.drop_eq_getElem_cons hl] at h1
    injection h1 with e1 e2
    have hs : starW2 P i = true := by rw [starW2_at hl, ← e1]; exact hp
    refine ih (i + 1) k (by omega) hk e2 h2 (.inl ?_)
    rcases h3 with h3 | ⟨_, h3⟩
    · exact .skip h3 hs
    · exact h3
  | @eat p n P1 N1 hp _ ih =>
    intro i k hi hk h1 h2 h3
    have hl : i < P.length := by
      have e1 := congrArg List.length h1
      simp at e1; omega
    have hl2 : k < N.length := by
      have e1 := congrArg List.length h2
      simp at e1; omega
    have h1' := h1
    rw [List.drop_eq_getElem_cons hl] at h1'
    rw [List.drop_eq_getElem_cons hl2] at h2
    injection h1' with e1 e2
    injection h2 with e3 e4
    have hs : starW2 P i = true := by rw [starW2_at hl, ← e1]; exact hp
    refine ih i (k + 1) hi (by omega) h1 e4 (.inr ⟨hs, ?_⟩)
    rcases h3 with h3 | ⟨_, h3⟩
    · exact .eat (.skip h3 hs) hs
    · exact .eat h3 hs
  | @name p n P1 N1 hp hn _ ih =>
    intro i k hi hk h1 h2 h3
    have hl : i < P.length := by
      have e1 := congrArg List.length h1
      simp at e1; omega
    have hl2 : k < N.length := by
      have e1 := congrArg List.length h2
      simp at e1; omega
    rw [List.drop_eq_getElem_cons hl] at h1
    rw [List.drop_eq_getElem_cons hl2] at h2
    injection h1 with e1 e2
    injection h2 with e3 e4
    have hs : starW2 P i = false := by rw [starW2_at hl, ← e1]; exact hp
    refine ih (i + 1) (k + 1) (by omega) (by omega) e2 e4 (.inl ?_)
    rcases h3 with h3 | ⟨h3, _⟩
    · exact .char h3 hs (by rw [charW_at hl hl2, ← e1, ← e3]; exact hn)
    · rw [hs] at h3; cases h3
theorem dp_wk (P N : List ByteArray) : dp (starW2 P) (charW P N) P.length N.length = wk P N := by
  rw [Bool.eq_iff_iff, dp_iff]
  constructor
  · intro h
    exact Wk_wk ((dp_wk_from h (Nat.le_refl _) (Nat.le_refl _)).1 (by rw [List.drop_length, List.drop_length]; exact .nil))
  · intro h
    exact wk_dp_to (wk_Wk _ _ h) 0 0 (Nat.zero_le _) (Nat.zero_le _) (by simp) (by simp) (.inl .start)
end
theorem join_snoc : ∀ (l : List (List UInt8)) (x : List UInt8), Lib.join (l ++ [x]) [47] = (if l = [] then x else Lib.join l [47] ++ 47 :: x)
  | [], x => by simp [Lib.join]
  | a :: l, x => by rw [if_neg (by simp), join_app (by simp) (by simp)]; simp [Lib.join]
theorem joinS_next {l : List ByteArray} {k : Nat} (h : k < l.length) : joinS (l.take (k + 1)) = (if 0 < k then joinS (l.take k) ++ ⟨#[47]⟩ ++ l[k] else joinS (l.take k) ++ l[k]) := by
  apply bs_inj
  have e : bsOf (joinS (l.take (k + 1))) = Lib.join ((l.take k).map (·.data.toList) ++ [l[k].data.toList]) [47] := by
    rw [List.take_succ_eq_append_getElem h, joinS, List.map_append]; rfl
  rw [e, join_snoc]
  split
  · rename_i h0
    have hk : k = 0 := by
      have := congrArg List.length h0
      simp at this
      rcases this with h1 | h1
      · exact h1
      · subst h1; simp at h
    subst hk
    rw [if_neg (by omega)]
    simp [bsOf_append, joinS, Lib.join, bsOf]
  · rename_i h0
    rw [if_pos (by rcases Nat.eq_zero_or_pos k with h1 | h1; subst h1; simp at h0; exact h1)]
    simp [bsOf_append, joinS, bsOf]
theorem fixed_hit {l : List ByteArray} {k : Nat} (hk : k < l.length) (hz : ∀ j (h : j < l.length), j < k → wildP l[j] = false) (h : wildP l[k] = true) : joinS (l.take k) = joinS (fixL l) := by
  rw [fix_hit hk hz h]
theorem fixed_end {l : List ByteArray} {k : Nat} (hk : ¬ k < l.length) (hz : ∀ j (h : j < l.length), j < k → wildP l[j] = false) : joinS (l.take k) = joinS (fixL l) := by
  rw [fix_all (fun j hj => hz j hj (by omega)), List.take_of_length_le (by omega)]
theorem joinS_size (s : ByteArray) (k : Nat) : (joinS ((cutS s).take k)).size ≤ s.size := by
  have h1 := join_take_len s k
  have h2 : (joinS ((cutS s).take k)).size = (Lib.join (((cutS s).take k).map (·.data.toList)) [47]).length := by
    show (Array.size (List.toArray _)) = _
    rw [List.size_toArray]
  rw [h2]; exact h1
end Go.Cf
namespace Go.Cf
open Go.RowKit
inductive Rch {S : Type} (next : S → List S) (s0 : S) : S → Prop
  | start : Rch next s0 s0
  | step {x y : S} : Rch next s0 x → y ∈ next x → Rch next s0 y
inductive RTo {S : Type} (next : S → List S) (g : S) : S → Prop
  | here : RTo next g g
  | step {x y : S} : y ∈ next x → RTo next g y → RTo next g x
section
variable {S : Type} {next : S → List S} {s0 g : S}
theorem rto_of_rch {x : S} (h : Rch next s0 x) : RTo next g x → RTo next g s0 := by
  induction h with
  | start => exact id
  | step _ hy ih => exact fun h => ih (.step hy h)
theorem rch_of_rto {x : S} (h : RTo next g x) : Rch next s0 x → Rch next s0 g := by
  induction h with
  | here => exact id
  | step hy _ ih => exact fun h => ih (.step h hy)
theorem rch_rto : Rch next s0 g ↔ RTo next g s0 := ⟨fun h => rto_of_rch h .here, fun h => rch_of_rto h .start⟩
end
structure Fwd {S : Type} (next : S → List S) (s0 : S) (idx : S → Nat) (ok : S → Prop) (N : Nat) (l : List Bool) (n : Nat) : Prop where
  len : l.length = N
  inj : ∀ x y, ok x → ok y → idx x = idx y → x = y
  lt : ∀ x, ok x → idx x < N
  start : l[idx s0]? = some true
  sound : ∀ y, ok y → l[idx y]? = some true → Rch next s0 y
  closed : ∀ x, ok x → idx x < n → l[idx x]? = some true → ∀ y ∈ next x, l[idx y]? = some true
section
variable {S : Type} {next : S → List S} {s0 : S} {idx : S → Nat} {ok : S → Prop} {N n : Nat} {l : List Bool} {x y : S}
theorem Fwd.first (hinj : ∀ x y, ok x → ok y → idx x = idx y → x = y) (hlt : ∀ x, ok x → idx x < N) (h0 : ok s0) : Fwd next s0 idx ok N ((List.replicate N false).set (idx s0) true) 0 := by
  refine ⟨by simp, hinj, hlt, by rw [List.getElem?_set_self (by simpa using hlt _ h0)], fun y hy h => ?_, fun _ _ h => absurd h (by omega)⟩
  by_cases e : idx s0 = idx y
  · rw [hinj _ _ h0 hy e]; exact .start
  · rw [List.getElem?_set_ne e, List.getElem?_replicate, if_pos (hlt _ hy)] at h
    cases h
theorem set_keep {k m : Nat} (h : l[k]? = some true) : (l.set m true)[k]? = some true := by
  by_cases e : m = k
  · subst e
    rw [List.getElem?_set_self (List.getElem?_eq_some_iff.1 h).1]
  · rw [List.getElem?_set_ne e]; exact h
theorem Fwd.set (h : Fwd next s0 idx ok N l n) (hx : ok x) (hxt : l[idx x]? = some true) (hy : y ∈ next x) (hoy : ok y) (hn : n ≤ idx y) : Fwd next s0 idx ok N (l.set (idx y) true) n := by
  refine ⟨by rw [List.length_set]; exact h.len, h.inj, h.lt, set_keep h.start, fun z hz hzt => ?_, fun z hz hzn hzt w hw => ?_⟩
  · by_cases e : idx y = idx z
    · rw [← h.inj _ _ hoy hz e]; exact .step (h.sound x hx hxt) hy
    · rw [List.getElem?_set_ne e] at hzt; exact h.sound z hz hzt
  · rw [List.getElem?_set_ne (by omega)] at hzt
    exact set_keep (h.closed z hz hzn hzt w hw)
theorem Fwd.put (h : Fwd next s0 idx ok N l n) (hoy : ok y) : (l.set (idx y) true)[idx y]? = some true := by
  rw [List.getElem?_set_self (by rw [h.len]; exact h.lt _ hoy)]
theorem Fwd.one (h : Fwd next s0 idx ok N l n) (hx : ok x) (hn : idx x = n) (hc : l[idx x]? = some true → ∀ y ∈ next x, l[idx y]? = some true) : Fwd next s0 idx ok N l (n + 1) := by
  refine ⟨h.len, h.inj, h.lt, h.start, h.sound, fun z hz hzn hzt => ?_⟩
  rcases Nat.lt_succ_iff_lt_or_eq.1 hzn with h1 | h1
  · exact h.closed z hz h1 hzt
  · have e := h.inj z x hz hx (by omega)
    subst e
    exact hc hzt
theorem Fwd.jump {m : Nat} (h : Fwd next s0 idx ok N l n) (hm : ∀ x, ok x → idx x < m → idx x < n) : Fwd next s0 idx ok N l m :=
  ⟨h.len, h.inj, h.lt, h.start, h.sound, fun z hz hzm => h.closed z hz (hm z hz hzm)⟩
theorem Fwd.final {g : S} (h : Fwd next s0 idx ok N l n) (hn : ∀ x, ok x → idx x < n) (hok : ∀ x, ok x → ∀ y ∈ next x, ok y) (h0 : ok s0) (hg : ok g) : l[idx g]? = some true ↔ Rch next s0 g := by
  refine ⟨h.sound g hg, fun hr => ?_⟩
  have key : ∀ z, Rch next s0 z → ok z ∧ l[idx z]? = some true := by
    intro z hz
    induction hz with
    | start => exact ⟨h0, h.start⟩
    | step _ hy ih => exact ⟨hok _ ih.1 _ hy, h.closed _ ih.1 (hn _ ih.1) ih.2 _ hy⟩
  exact (key g hr).2
structure Rnd (next : S → List S) (s0 : S) (idx : S → Nat) (ok : S → Prop) (N : Nat) (x : S) (ns : List S) (l : List Bool) : Prop where
  tab : Fwd next s0 idx ok N l (idx x)
  here : l[idx x]? = some true
  set_ : ∀ y ∈ ns, l[idx y]? = some true
theorem Rnd.first (h : Fwd next s0 idx ok N l (idx x)) (hx : l[idx x]? = some true) : Rnd next s0 idx ok N x [] l := ⟨h, hx, fun _ h => (by cases h)⟩
theorem Rnd.more {ns ms : List S} (h : Rnd next s0 idx ok N x ns l) (hm : ms = []) : Rnd next s0 idx ok N x (ns ++ ms) l := by subst hm; rw [List.append_nil]; exact h
theorem Rnd.put {ns ms : List S} (h : Rnd next s0 idx ok N x ns l) (hx : ok x) (hm : ms = [y]) (hy : y ∈ next x) (hoy : ok y) (hn : idx x ≤ idx y) : Rnd next s0 idx ok N x (ns ++ ms) (l.set (idx y) true) := by
  subst hm
  refine ⟨h.tab.set hx h.here hy hoy hn, set_keep h.here, fun z hz => ?_⟩
  rcases List.mem_append.1 hz with hz | hz
  · exact set_keep (h.set_ z hz)
  · rw [List.mem_singleton.1 hz]; exact h.tab.put hoy
theorem Rnd.end_ {ns : List S} (h : Rnd next s0 idx ok N x ns l) (hx : ok x) (hns : next x = ns) : Fwd next s0 idx ok N l (idx x + 1) := h.tab.one hx rfl (fun _ => by rw [hns]; exact h.set_)
theorem Fwd.skip (h : Fwd next s0 idx ok N l (idx x)) (hx : ok x) (hf : l[idx x]? = some false) : Fwd next s0 idx ok N l (idx x + 1) := h.one hx rfl (fun h1 => by rw [hf] at h1; cases h1)
end
theorem cell_flat1 {w0 : World} {T : List Reg} (i : Nat) {b off k : Nat} {l : List Bool} {e : TypeId} {fz : Nat × Nat} {v : Bool} (hi : T[i]? = some (box b (.cells (l.flatMap boolCells).toArray e fz))) (hk : l[k]? = some v) (ho : off = k) : Cell w0 T ⟨b, off, none⟩ (.bool v) := by
  subst ho
  refine cell_box i hi ?_
  have h := flat_at (f := boolCells) (size := 1) (fun _ => rfl) l off v hk 0 (.bool v) rfl
  simpa using h
theorem rep_first {n : Nat} (h : Nat.blt 0 n = true) : (List.replicate n false)[0]? = some false := by
  rw [List.getElem?_replicate, if_pos (show 0 < n from Nat.le_of_ble_eq_true h)]
def dotFitsB (a b : Nat) : Bool := (wildB a || decide (a = 46)) && (wildB b || decide (b = 46))
def otherFitsB (a b : Nat) : Bool := if a = 46 ∨ b = 46 then false else wildB a || (wildB b || decide (a = b))
def dotC (p q : ByteArray) (x : Pl) : List Pl := if x.1 < p.size ∧ x.2.1 < q.size ∧ dotFitsB (byteAt p x.1) (byteAt q x.2.1) = true then [(nxI p x, nxJ q x, min (x.2.2 + 1) 3)] else []
def otherC (p q : ByteArray) (x : Pl) : List Pl := if x.1 < p.size ∧ x.2.1 < q.size ∧ otherFitsB (byteAt p x.1) (byteAt q x.2.1) = true then [(nxI p x, nxJ q x, 3)] else []
def next2 (p q : ByteArray) (x : Pl) : List Pl := nxA p x ++ nxB q x ++ dotC p q x ++ otherC p q x
def idx3 (x : Pl) : Nat := x.1 * 248 + x.2.1 * 4 + x.2.2
abbrev Fwd3 (p q : ByteArray) (l : List Bool) (n : Nat) : Prop := Fwd (next2 p q) (0, 0, 0) idx3 (okPl p q) 15376 l n
abbrev Rnd3 (p q : ByteArray) (x : Pl) (ns : List Pl) (l : List Bool) : Prop := Rnd (next2 p q) (0, 0, 0) idx3 (okPl p q) 15376 x ns l
section
variable {p q : ByteArray}
theorem idx3_inj (_hp : p.size ≤ 60) (hq : q.size ≤ 60) : ∀ x y, okPl p q x → okPl p q y → idx3 x = idx3 y → x = y := by
  rintro ⟨i, j, d⟩ ⟨i', j', d'⟩ ⟨h1, h2, h3⟩ ⟨h4, h5, h6⟩ h
  simp only [idx3] at *
  have e1 : i = i' := by omega
  have e2 : j = j' := by omega
  have e3 : d = d' := by omega
  rw [e1, e2, e3]
theorem idx3_lt (hp : p.size ≤ 60) (hq : q.size ≤ 60) : ∀ x, okPl p q x → idx3 x < 15376 := by
  rintro ⟨i, j, d⟩ ⟨h1, h2, h3⟩
  simp only [idx3] at *
  omega
theorem next2_mem {x y : Pl} : y ∈ next2 p q x ↔ (x.1 < p.size ∧ byteAt p x.1 = 42 ∧ y = (x.1 + 1, x.2.1, x.2.2)) ∨ (x.2.1 < q.size ∧ byteAt q x.2.1 = 42 ∧ y = (x.1, x.2.1 + 1, x.2.2)) ∨
    (x.1 < p.size ∧ x.2.1 < q.size ∧ dotFitsB (byteAt p x.1) (byteAt q x.2.1) = true ∧ y = (nxI p x, nxJ q x, min (x.2.2 + 1) 3)) ∨ (x.1 < p.size ∧ x.2.1 < q.size ∧ otherFitsB (byteAt p x.1) (byteAt q x.2.1) = true ∧ y = (nxI p x, nxJ q x, 3)) := by
  unfold next2 nxA nxB dotC otherC
  simp only [List.mem_append]
  constructor
  · rintro (((h | h) | h) | h)
    · split at h
      · rename_i hc; exact .inl ⟨hc.1, hc.2, by simpa using h⟩
      · simp at h
    · split at h
      · rename_i hc; exact .inr (.inl ⟨hc.1, hc.2, by simpa using h⟩)
      · simp at h
    · split at h
      · rename_i hc; exact .inr (.inr (.inl ⟨hc.1, hc.2.1, hc.2.2, by simpa using h⟩))
      · simp at h
    · split at h
      · rename_i hc; exact .inr (.inr (.inr ⟨hc.1, hc.2.1, hc.2.2, by simpa using h⟩))
      · simp at h
  · rintro (⟨h1, h2, h3⟩ | ⟨h1, h2, h3⟩ | ⟨h1, h2, h3, h4⟩ | ⟨h1, h2, h3, h4⟩)
    · left; left; left; rw [if_pos ⟨h1, h2⟩, h3]; simp
    · left; left; right; rw [if_pos ⟨h1, h2⟩, h3]; simp
    · left; right; rw [if_pos ⟨h1, h2, h3⟩, h4]; simp
    · right; rw [if_pos ⟨h1, h2, h3⟩, h4]; simp
theorem next2_ok {x : Pl} (hx : okPl p q x) : ∀ y ∈ next2 p q x, okPl p q y := by
  intro y h
  obtain ⟨h1, h2, h3⟩ := hx
  have i := @nxI_le p x; have j := @nxJ_le q x
  rcases next2_mem.1 h with ⟨a, _, rfl⟩ | ⟨a, _, rfl⟩ | ⟨a, b, _, rfl⟩ | ⟨a, b, _, rfl⟩
  · exact ⟨a, h2, h3⟩
  · exact ⟨h1, a, h3⟩
  · exact ⟨by show nxI p x ≤ _; omega, by show nxJ q x ≤ _; omega, by show min (x.2.2 + 1) 3 ≤ 3; omega⟩
  · exact ⟨by show nxI p x ≤ _; omega, by show nxJ q x ≤ _; omega, Nat.le_refl 3⟩
theorem dot_fits {x : Pl} (h : dotFitsB (byteAt p x.1) (byteAt q x.2.1) = true) : fits p q x := by
  simp only [dotFitsB, Bool.and_eq_true, Bool.or_eq_true, decide_eq_true_iff] at h
  unfold fits
  rcases h with ⟨h1 | h1, h2 | h2⟩
  · exact .inl h1
  · exact .inl h1
  · exact .inr (.inl h2)
  · exact .inr (.inr (by rw [h1, h2]))
theorem other_fits {x : Pl} (h : otherFitsB (byteAt p x.1) (byteAt q x.2.1) = true) : fits p q x ∧ ¬ (byteAt p x.1 = 46 ∨ byteAt q x.2.1 = 46) := by
  unfold otherFitsB at h
  split at h
  · cases h
  · rename_i hn
    simp only [Bool.or_eq_true, decide_eq_true_iff] at h
    exact ⟨h, hn⟩
theorem fits_dot {x : Pl} (h : fits p q x) (hd : byteAt p x.1 = 46 ∨ byteAt q x.2.1 = 46) : dotFitsB (byteAt p x.1) (byteAt q x.2.1) = true := by
  simp only [dotFitsB, Bool.and_eq_true, Bool.or_eq_true, decide_eq_true_iff]
  have hw : wildB 46 = false := by decide
  unfold fits at h
  rcases hd with hd | hd
  · rw [hd] at h ⊢
    rcases h with h | h | h
    · rw [hw] at h; cases h
    · exact ⟨.inr rfl, .inl h⟩
    · exact ⟨.inr rfl, .inr h.symm⟩
  · rw [hd] at h ⊢
    rcases h with h | h | h
    · exact ⟨.inl h, .inr rfl⟩
    · rw [hw] at h; cases h
    · exact ⟨.inr h, .inr rfl⟩
theorem fits_other {x : Pl} (h : fits p q x) (hd : ¬ (byteAt p x.1 = 46 ∨ byteAt q x.2.1 = 46)) : otherFitsB (byteAt p x.1) (byteAt q x.2.1) = true := by
  unfold otherFitsB
  rw [if_neg hd]
  simpa [fits] using h
theorem rch_of_reach {x : Pl} (h : Reach p q x) : Rch (next2 p q) (0, 0, 0) x := by
  induction h with
  | start => exact .start
  | @step x y _ hy ih =>
    refine .step ih (next2_mem.2 ?_)
    rcases nextL_mem.1 hy with h | h | ⟨h1, h2, h3, rfl⟩
    · exact .inl h
    · exact .inr (.inl h)
    · by_cases hd : byteAt p x.1 = 46 ∨ byteAt q x.2.1 = 46
      · exact .inr (.inr (.inl ⟨h1, h2, fits_dot h3 hd, by rw [nxD, if_pos hd]⟩))
      · exact .inr (.inr (.inr ⟨h1, h2, fits_other h3 hd, by rw [nxD, if_neg hd]⟩))
theorem reach_of_rch {x : Pl} (h : Rch (next2 p q) (0, 0, 0) x) : x.2.2 ≤ 3 ∧ ∃ d, x.2.2 ≤ d ∧ d ≤ 3 ∧ Reach p q (x.1, x.2.1, d) := by
  induction h with
  | start => exact ⟨Nat.zero_le _, 0, Nat.le_refl _, Nat.zero_le _, .start⟩
  | @step x y _ hy ih =>
    obtain ⟨h3, d, hd1, hd2, hr⟩ := ih
    rcases next2_mem.1 hy with ⟨h1, h2, rfl⟩ | ⟨h1, h2, rfl⟩ | ⟨h1, h2, hf, rfl⟩ | ⟨h1, h2, hf, rfl⟩
    · exact ⟨h3, d, hd1, hd2, .step hr (nextL_mem.2 (.inl ⟨h1, h2, rfl⟩))⟩
    · exact ⟨h3, d, hd1, hd2, .step hr (nextL_mem.2 (.inr (.inl ⟨h1, h2, rfl⟩)))⟩
    · refine ⟨by show min (x.2.2 + 1) 3 ≤ 3; omega, nxD p q (x.1, x.2.1, d), ?_, (@nxD_le p q _).1, .step hr (nextL_mem.2 (.inr (.inr ⟨h1, h2, dot_fits (x := (x.1, x.2.1, d)) hf, rfl⟩)))⟩
      show min (x.2.2 + 1) 3 ≤ _
      unfold nxD
      split
      · show _ ≤ min (d + 1) 3
        omega
      · omega
    · obtain ⟨hf1, hf2⟩ := other_fits hf
      refine ⟨Nat.le_refl 3, nxD p q (x.1, x.2.1, d), ?_, (@nxD_le p q _).1, .step hr (nextL_mem.2 (.inr (.inr ⟨h1, h2, hf1, rfl⟩)))⟩
      rw [nxD, if_neg hf2]
      exact Nat.le_refl 3
theorem rch_common : Rch (next2 p q) (0, 0, 0) (goalP p q) ↔ commonB p q = true := by
  rw [commonB_reach]
  refine ⟨fun h => ?_, rch_of_reach⟩
  obtain ⟨_, d, h1, h2, h3⟩ := reach_of_rch h
  have e : d = 3 := by change 3 ≤ d at h1; omega
  subst e
  exact h3
theorem Fwd3.answer {l : List Bool} {n : Nat} (h : Fwd3 p q l n) (hn : ∀ x, okPl p q x → idx3 x < n) {v : Bool} (hv : l[p.size * 248 + q.size * 4 + 3]? = some v) : v = commonB p q := by
  have h0 : okPl p q (0, 0, 0) := ⟨Nat.zero_le _, Nat.zero_le _, Nat.zero_le _⟩
  have hg : okPl p q (goalP p q) := ⟨Nat.le_refl _, Nat.le_refl _, Nat.le_refl _⟩
  have hf := (h.final hn (fun x hx y hy => next2_ok hx y hy) h0 hg).trans rch_common
  have e : l[idx3 (goalP p q)]? = some v := hv
  rw [e] at hf
  rw [Bool.eq_iff_iff, ← hf]
  simp
end
abbrev Pq := Nat × Nat
section
variable (P Q : List ByteArray)
def ovA (x : Pq) : List Pq := if x.1 < P.length ∧ starW2 P x.1 = true then [(x.1 + 1, x.2)] else []
def ovB (x : Pq) : List Pq := if x.2 < Q.length ∧ starW2 Q x.2 = true then [(x.1, x.2 + 1)] else []
def ovC (x : Pq) : List Pq := if x.1 < P.length ∧ x.2 < Q.length ∧ starW2 P x.1 = true ∧ starW2 Q x.2 = false then [(x.1, x.2 + 1)] else []
def ovD (x : Pq) : List Pq := if x.1 < P.length ∧ x.2 < Q.length ∧ starW2 P x.1 = false ∧ starW2 Q x.2 = true then [(x.1 + 1, x.2)] else []
def ovE (x : Pq) : List Pq := if x.1 < P.length ∧ x.2 < Q.length ∧ starW2 P x.1 = false ∧ starW2 Q x.2 = false ∧ commonB (P[x.1]?.getD ⟨#[]⟩) (Q[x.2]?.getD ⟨#[]⟩) = true then [(x.1 + 1, x.2 + 1)] else []
def nextO (x : Pq) : List Pq := ovA P x ++ ovB Q x ++ ovC P Q x ++ ovD P Q x ++ ovE P Q x
def okPq (x : Pq) : Prop := x.1 ≤ P.length ∧ x.2 ≤ Q.length
def idx2 (x : Pq) : Nat := x.1 * 62 + x.2
abbrev Fwd2 (l : List Bool) (n : Nat) : Prop := Fwd (nextO P Q) (0, 0) idx2 (okPq P Q) 3844 l n
abbrev Rnd2 (x : Pq) (ns : List Pq) (l : List Bool) : Prop := Rnd (nextO P Q) (0, 0) idx2 (okPq P Q) 3844 x ns l
end
section
variable {P Q : List ByteArray}
theorem idx2_inj (_hp : P.length ≤ 61) (hq : Q.length ≤ 61) : ∀ x y, okPq P Q x → okPq P Q y → idx2 x = idx2 y → x = y := by
  rintro ⟨i, j⟩ ⟨i', j'⟩ ⟨h1, h2⟩ ⟨h4, h5⟩ h
  simp only [idx2] at *
  have e1 : i = i' := by omega
  have e2 : j = j' := by omega
  rw [e1, e2]
theorem idx2_lt (hp : P.length ≤ 61) (hq : Q.length ≤ 61) : ∀ x, okPq P Q x → idx2 x < 3844 := by
  rintro ⟨i, j⟩ ⟨h1, h2⟩
  simp only [idx2] at *
  omega
theorem nextO_mem {x y : Pq} : y ∈ nextO P Q x ↔ (x.1 < P.length ∧ starW2 P x.1 = true ∧ y = (x.1 + 1, x.2)) ∨ (x.2 < Q.length ∧ starW2 Q x.2 = true ∧ y = (x.1, x.2 + 1)) ∨
    (x.1 < P.length ∧ x.2 < Q.length ∧ starW2 P x.1 = true ∧ starW2 Q x.2 = false ∧ y = (x.1, x.2 + 1)) ∨ (x.1 < P.length ∧ x.2 < Q.length ∧ starW2 P x.1 = false ∧ starW2 Q x.2 = true ∧ y = (x.1 + 1, x.2)) ∨
    (x.1 < P.length ∧ x.2 < Q.length ∧ starW2 P x.1 = false ∧ starW2 Q x.2 = false ∧ commonB (P[x.1]?.getD ⟨#[]⟩) (Q[x.2]?.getD ⟨#[]⟩) = true ∧ y = (x.1 + 1, x.2 + 1)) := by
  unfold nextO ovA ovB ovC ovD ovE
  simp only [List.mem_append]
  constructor
  · rintro ((((h | h) | h) | h) | h)
    · split at h
      · rename_i hc; exact .inl ⟨hc.1, hc.2, by simpa using h⟩
      · simp at h
    · split at h
      · rename_i hc; exact .inr (.inl ⟨hc.1, hc.2, by simpa using h⟩)
      · simp at h
    · split at h
      · rename_i hc; exact .inr (.inr (.inl ⟨hc.1, hc.2.1, hc.2.2.1, hc.2.2.2, by simpa using h⟩))
      · simp at h
    · split at h
      · rename_i hc; exact .inr (.inr (.inr (.inl ⟨hc.1, hc.2.1, hc.2.2.1, hc.2.2.2, by simpa using h⟩)))
      · simp at h
    · split at h
      · rename_i hc; exact .inr (.inr (.inr (.inr ⟨hc.1, hc.2.1, hc.2.2.1, hc.2.2.2.1, hc.2.2.2.2, by simpa using h⟩)))
      · simp at h
  · rintro (⟨h1, h2, h3⟩ | ⟨h1, h2, h3⟩ | ⟨h1, h2, h3, h4, h5⟩ | ⟨h1, h2, h3, h4, h5⟩ | ⟨h1, h2, h3, h4, h5, h6⟩)
    · left; left; left; left; rw [if_pos ⟨h1, h2⟩, h3]; simp
    · left; left; left; right; rw [if_pos ⟨h1, h2⟩, h3]; simp
    · left; left; right; rw [if_pos ⟨h1, h2, h3, h4⟩, h5]; simp
    · left; right; rw [if_pos ⟨h1, h2, h3, h4⟩, h5]; simp
    · right; rw [if_pos ⟨h1, h2, h3, h4, h5⟩, h6]; simp
theorem nextO_ok {x : Pq} (hx : okPq P Q x) : ∀ y ∈ nextO P Q x, okPq P Q y := by
  intro y h
  obtain ⟨h1, h2⟩ := hx
  rcases nextO_mem.1 h with ⟨a, _, rfl⟩ | ⟨a, _, rfl⟩ | ⟨a, b, _, _, rfl⟩ | ⟨a, b, _, _, rfl⟩ | ⟨a, b, _, _, _, rfl⟩
  · exact ⟨a, h2⟩
  · exact ⟨h1, a⟩
  · exact ⟨h1, b⟩
  · exact ⟨a, h2⟩
  · exact ⟨a, b⟩
theorem getD_at {L : List ByteArray} {i : Nat} (h : i < L.length) : L[i]?.getD ⟨#[]⟩ = L[i] := by rw [List.getElem?_eq_getElem h]; rfl
theorem ov_of_rto {x : Pq} (h : RTo (nextO P Q) (P.length, Q.length) x) : okPq P Q x → Ov (P.drop x.1) (Q.drop x.2) := by
  induction h with
  | here => intro _; simp; exact .nil
  | @step x y hy _ ih =>
    intro hx
    have ih' := ih (nextO_ok hx y hy)
    rcases nextO_mem.1 hy with ⟨a, s, rfl⟩ | ⟨a, s, rfl⟩ | ⟨a, b, s, t, rfl⟩ | ⟨a, b, s, t, rfl⟩ | ⟨a, b, s, t, c, rfl⟩
    · rw [List.drop_eq_getElem_cons a]
      exact .starL (by rw [← starW2_at a]; exact s) ih'
    · rw [List.drop_eq_getElem_cons a]
      exact .starR (by rw [← starW2_at a]; exact s) ih'
    · have h1 := List.drop_eq_getElem_cons a
      rw [h1] at ih' ⊢
      rw [List.drop_eq_getElem_cons b]
      exact .eatL (by rw [← starW2_at a]; exact s) ih'
    · have h1 := List.drop_eq_getElem_cons b
      rw [h1] at ih' ⊢
      rw [List.drop_eq_getElem_cons a]
      exact .eatR (by rw [← starW2_at b]; exact t) ih'
    · rw [List.drop_eq_getElem_cons a, List.drop_eq_getElem_cons b]
      rw [getD_at a, getD_at b] at c
      exact .both (by rw [← starW2_at a]; exact s) (by rw [← starW2_at b]; exact t) c ih'
theorem rto_of_ov {P' Q' : List ByteArray} (h : Ov P' Q') : ∀ i j, i ≤ P.length → j ≤ Q.length → P' = P.drop i → Q' = Q.drop j → RTo (nextO P Q) (P.length, Q.length) (i, j) := by
  have lt : ∀ {L : List ByteArray} {i : Nat} {a : ByteArray} {r : List ByteArray}, a :: r = L.drop i → ∃ h : i < L.length, a = L[i] ∧ r = L.drop (i + 1) := by
    intro L i a r h
    have hl : i < L.length := by
      have := congrArg List.length h
      simp at this; omega
    rw [List.drop_eq_getElem_cons hl] at h
    injection h with h1 h2
    exact ⟨hl, h1, h2⟩
  induction h with
  | nil =>
    intro i j hi hj h1 h2
    have e1 := congrArg List.length h1
    have e2 := congrArg List.length h2
    simp at e1 e2
    rw [show i = P.length by omega, show j = Q.length by omega]
    exact .here
  | starL hp _ ih =>
    intro i j hi hj h1 h2
    obtain ⟨hl, rfl, e⟩ := lt h1
    exact .step (nextO_mem.2 (.inl ⟨hl, by rw [starW2_at hl]; exact hp, rfl⟩)) (ih (i + 1) j hl hj e h2)
  | starR hq _ ih =>
    intro i j hi hj h1 h2
    obtain ⟨hl, rfl, e⟩ := lt h2
    exact .step (nextO_mem.2 (.inr (.inl ⟨hl, by rw [starW2_at hl]; exact hq, rfl⟩))) (ih i (j + 1) hi hl h1 e)
  | eatL hp _ ih =>
    intro i j hi hj h1 h2
    obtain ⟨hl, rfl, e⟩ := lt h1
    obtain ⟨hl2, rfl, e2⟩ := lt h2
    have hr := ih i (j + 1) hi hl2 h1 e2
    cases hs : starW2 Q j with
    | true => exact .step (nextO_mem.2 (.inr (.inl ⟨hl2, hs, rfl⟩))) hr
    | false => exact .step (nextO_mem.2 (.inr (.inr (.inl ⟨hl, hl2, by rw [starW2_at hl]; exact hp, hs, rfl⟩)))) hr
  | eatR hq _ ih =>
    intro i j hi hj h1 h2
    obtain ⟨hl, rfl, e⟩ := lt h1
    obtain ⟨hl2, rfl, e2⟩ := lt h2
    have hr := ih (i + 1) j hl hj e h2
    cases hs : starW2 P i with
    | true => exact .step (nextO_mem.2 (.inl ⟨hl, hs, rfl⟩)) hr
    | false => exact .step (nextO_mem.2 (.inr (.inr (.inr (.inl ⟨hl, hl2, hs, by rw [starW2_at hl2]; exact hq, rfl⟩))))) hr
  | both hp hq hc _ ih =>
    intro i j hi hj h1 h2
    obtain ⟨hl, rfl, e⟩ := lt h1
    obtain ⟨hl2, rfl, e2⟩ := lt h2
    exact .step (nextO_mem.2 (.inr (.inr (.inr (.inr ⟨hl, hl2, by rw [starW2_at hl]; exact hp, by rw [starW2_at hl2]; exact hq, by rw [getD_at hl, getD_at hl2]; exact hc, rfl⟩))))) (ih (i + 1) (j + 1) hl hl2 e e2)
theorem rch_ov : Rch (nextO P Q) (0, 0) (P.length, Q.length) ↔ ov P Q = true := by
  rw [rch_rto]
  constructor
  · intro h
    have := ov_of_rto h ⟨Nat.zero_le _, Nat.zero_le _⟩
    exact Ov_ov (by simpa using this)
  · intro h
    exact rto_of_ov (ov_Ov _ _ h) 0 0 (Nat.zero_le _) (Nat.zero_le _) (by simp) (by simp)
theorem Fwd2.answer {l : List Bool} {n : Nat} (h : Fwd2 P Q l n) (hn : ∀ x, okPq P Q x → idx2 x < n) {v : Bool} (hv : l[P.length * 62 + Q.length]? = some v) : v = ov P Q := by
  have hf := (h.final (g := (P.length, Q.length)) hn (fun x hx y hy => nextO_ok hx y hy) ⟨Nat.zero_le _, Nat.zero_le _⟩ ⟨Nat.le_refl _, Nat.le_refl _⟩).trans rch_ov
  have e : l[idx2 (P.length, Q.length)]? = some v := hv
  rw [e] at hf
  rw [Bool.eq_iff_iff, ← hf]
  simp
end
end Go.Cf
namespace Go.Cf
section
variable {p q : ByteArray} {i j d : Nat} {l : List Bool}
theorem idx3_succ (i j d : Nat) : idx3 (i, j, d) + 1 = idx3 (i, j, d + 1) := by
  simp only [idx3]; omega
theorem idx2_succ (i j : Nat) : idx2 (i, j) + 1 = idx2 (i, j + 1) := by
  simp only [idx2]; omega
theorem Fwd3.no (h : Fwd3 p q l (idx3 (i, j, d))) (hx : okPl p q (i, j, d)) (hf : l[idx3 (i, j, d)]? = some false) : Fwd3 p q l (idx3 (i, j, d + 1)) := by
  rw [← idx3_succ i j d]; exact Fwd.skip h hx hf
theorem Rnd3.a1 (h : Rnd3 p q (i, j, d) [] l) (hx : okPl p q (i, j, d)) (h1 : i < p.size) (h2 : byteAt p i = 42) : Rnd3 p q (i, j, d) (nxA p (i, j, d)) (l.set (idx3 (i + 1, j, d)) true) := by
  have hy : (i + 1, j, d) ∈ next2 p q (i, j, d) := next2_mem.2 (.inl ⟨h1, h2, rfl⟩)
  have h7 := Rnd.put (y := (i + 1, j, d)) (ms := nxA p (i, j, d)) h hx (by rw [nxA, if_pos ⟨h1, h2⟩]) hy (next2_ok hx _ hy) (by simp only [idx3]; omega)
  rwa [List.nil_append] at h7
theorem Rnd3.a0 (h : Rnd3 p q (i, j, d) [] l) (hn : ¬ (i < p.size ∧ byteAt p i = 42)) : Rnd3 p q (i, j, d) (nxA p (i, j, d)) l := by
  have h7 := Rnd.more (ms := nxA p (i, j, d)) h (by rw [nxA, if_neg hn])
  rwa [List.nil_append] at h7
theorem Rnd3.b1 (h : Rnd3 p q (i, j, d) (nxA p (i, j, d)) l) (hx : okPl p q (i, j, d)) (h1 : j < q.size) (h2 : byteAt q j = 42) : Rnd3 p q (i, j, d) (nxA p (i, j, d) ++ nxB q (i, j, d)) (l.set (idx3 (i, j + 1, d)) true) := by
  have hy : (i, j + 1, d) ∈ next2 p q (i, j, d) := next2_mem.2 (.inr (.inl ⟨h1, h2, rfl⟩))
  exact Rnd.put (y := (i, j + 1, d)) (ms := nxB q (i, j, d)) h hx (by rw [nxB, if_pos ⟨h1, h2⟩]) hy (next2_ok hx _ hy) (by simp only [idx3]; omega)
theorem Rnd3.b0 (h : Rnd3 p q (i, j, d) (nxA p (i, j, d)) l) (hn : ¬ (j < q.size ∧ byteAt q j = 42)) : Rnd3 p q (i, j, d) (nxA p (i, j, d) ++ nxB q (i, j, d)) l :=
  Rnd.more (ms := nxB q (i, j, d)) h (by rw [nxB, if_neg hn])
theorem Rnd3.stop (h : Rnd3 p q (i, j, d) (nxA p (i, j, d) ++ nxB q (i, j, d)) l) (hx : okPl p q (i, j, d)) (hn : i = p.size ∨ j = q.size) : Fwd3 p q l (idx3 (i, j, d + 1)) := by
  rw [← idx3_succ i j d]
  refine Rnd.end_ h hx ?_
  have h1 : ¬ ((i, j, d).1 < p.size ∧ (i, j, d).2.1 < q.size ∧ dotFitsB (byteAt p (i, j, d).1) (byteAt q (i, j, d).2.1) = true) := by rintro ⟨a, b, _⟩; simp only at a b; omega
  have h2 : ¬ ((i, j, d).1 < p.size ∧ (i, j, d).2.1 < q.size ∧ otherFitsB (byteAt p (i, j, d).1) (byteAt q (i, j, d).2.1) = true) := by rintro ⟨a, b, _⟩; simp only at a b; omega
  rw [next2, dotC, if_neg h1, otherC, if_neg h2, List.append_nil, List.append_nil]
theorem nx_le (p q : ByteArray) (i j d e : Nat) (h : d ≤ e) : idx3 (i, j, d) ≤ idx3 (nxI p (i, j, d), nxJ q (i, j, d), e) := by
  have h1 : i ≤ nxI p (i, j, d) := (@nxI_le p (i, j, d)).1
  have h2 : j ≤ nxJ q (i, j, d) := (@nxJ_le q (i, j, d)).1
  show i * 248 + j * 4 + d ≤ nxI p (i, j, d) * 248 + nxJ q (i, j, d) * 4 + e
  generalize nxI p (i, j, d) = a at *
  generalize nxJ q (i, j, d) = b at *
  omega
theorem Rnd3.c1 (h : Rnd3 p q (i, j, d) (nxA p (i, j, d) ++ nxB q (i, j, d)) l) (hx : okPl p q (i, j, d)) (h1 : i < p.size) (h2 : j < q.size) (hf : dotFitsB (byteAt p i) (byteAt q j) = true) :
    Rnd3 p q (i, j, d) (nxA p (i, j, d) ++ nxB q (i, j, d) ++ dotC p q (i, j, d)) (l.set (idx3 (nxI p (i, j, d), nxJ q (i, j, d), min (d + 1) 3)) true) := by
  have hy : (nxI p (i, j, d), nxJ q (i, j, d), min (d + 1) 3) ∈ next2 p q (i, j, d) := next2_mem.2 (.inr (.inr (.inl ⟨h1, h2, hf, rfl⟩)))
  exact Rnd.put (ms := dotC p q (i, j, d)) h hx (by rw [dotC, if_pos ⟨h1, h2, hf⟩]) hy (next2_ok hx _ hy) (nx_le p q i j d _ (by have := hx.2.2; simp only at this; omega))
theorem Rnd3.c0 (h : Rnd3 p q (i, j, d) (nxA p (i, j, d) ++ nxB q (i, j, d)) l) (hf : dotFitsB (byteAt p i) (byteAt q j) = false) :
    Rnd3 p q (i, j, d) (nxA p (i, j, d) ++ nxB q (i, j, d) ++ dotC p q (i, j, d)) l :=
  Rnd.more (ms := dotC p q (i, j, d)) h (by rw [dotC, if_neg (fun h => by have h7 := h.2.2; simp only at h7; rw [hf] at h7; cases h7)])
theorem Rnd3.e1 (h : Rnd3 p q (i, j, d) (nxA p (i, j, d) ++ nxB q (i, j, d) ++ dotC p q (i, j, d)) l) (hx : okPl p q (i, j, d)) (h1 : i < p.size) (h2 : j < q.size) (hf : otherFitsB (byteAt p i) (byteAt q j) = true) :
    Fwd3 p q (l.set (idx3 (nxI p (i, j, d), nxJ q (i, j, d), 3)) true) (idx3 (i, j, d + 1)) := by
  rw [← idx3_succ i j d]
  have hy : (nxI p (i, j, d), nxJ q (i, j, d), 3) ∈ next2 p q (i, j, d) := next2_mem.2 (.inr (.inr (.inr ⟨h1, h2, hf, rfl⟩)))
  exact Rnd.end_ (Rnd.put (ms := otherC p q (i, j, d)) h hx (by rw [otherC, if_pos ⟨h1, h2, hf⟩]) hy (next2_ok hx _ hy) (nx_le p q i j d _ hx.2.2)) hx rfl
theorem Rnd3.e0 (h : Rnd3 p q (i, j, d) (nxA p (i, j, d) ++ nxB q (i, j, d) ++ dotC p q (i, j, d)) l) (hx : okPl p q (i, j, d)) (hf : otherFitsB (byteAt p i) (byteAt q j) = false) :
    Fwd3 p q l (idx3 (i, j, d + 1)) := by
  rw [← idx3_succ i j d]
  exact Rnd.end_ (Rnd.more (ms := otherC p q (i, j, d)) h (by rw [otherC, if_neg (fun h => by have h7 := h.2.2; simp only at h7; rw [hf] at h7; cases h7)])) hx rfl
theorem nx_lt (hp : p.size ≤ 60) (hq : q.size ≤ 60) (h1 : i < p.size) (h2 : j < q.size) {e : Nat} (he : e ≤ 3) : nxI p (i, j, d) ≤ 60 ∧ nxJ q (i, j, d) ≤ 60 ∧ idx3 (nxI p (i, j, d), nxJ q (i, j, d), e) < 15376 := by
  have h3 : nxI p (i, j, d) ≤ i + 1 := (@nxI_le p (i, j, d)).2
  have h4 : nxJ q (i, j, d) ≤ j + 1 := (@nxJ_le q (i, j, d)).2
  show _ ∧ _ ∧ nxI p (i, j, d) * 248 + nxJ q (i, j, d) * 4 + e < 15376
  generalize nxI p (i, j, d) = a at *
  generalize nxJ q (i, j, d) = b at *
  omega
end
section
variable {P Q : List ByteArray} {i j : Nat} {l : List Bool}
theorem Fwd2.no (h : Fwd2 P Q l (idx2 (i, j))) (hx : okPq P Q (i, j)) (hf : l[idx2 (i, j)]? = some false) : Fwd2 P Q l (idx2 (i, j + 1)) := by
  rw [← idx2_succ i j]; exact Fwd.skip h hx hf
theorem Rnd2.a1 (h : Rnd2 P Q (i, j) [] l) (hx : okPq P Q (i, j)) (h1 : i < P.length) (h2 : starW2 P i = true) : Rnd2 P Q (i, j) (ovA P (i, j)) (l.set (idx2 (i + 1, j)) true) := by
  have hy : (i + 1, j) ∈ nextO P Q (i, j) := nextO_mem.2 (.inl ⟨h1, h2, rfl⟩)
  have h7 := Rnd.put (y := (i + 1, j)) (ms := ovA P (i, j)) h hx (by rw [ovA, if_pos ⟨h1, h2⟩]) hy (nextO_ok hx _ hy) (by simp only [idx2]; omega)
  rwa [List.nil_append] at h7
theorem Rnd2.a0 (h : Rnd2 P Q (i, j) [] l) (hn : ¬ (i < P.length ∧ starW2 P i = true)) : Rnd2 P Q (i, j) (ovA P (i, j)) l := by
  have h7 := Rnd.more (ms := ovA P (i, j)) h (by rw [ovA, if_neg hn])
  rwa [List.nil_append] at h7
theorem Rnd2.b1 (h : Rnd2 P Q (i, j) (ovA P (i, j)) l) (hx : okPq P Q (i, j)) (h1 : j < Q.length) (h2 : starW2 Q j = true) : Rnd2 P Q (i, j) (ovA P (i, j) ++ ovB Q (i, j)) (l.set (idx2 (i, j + 1)) true) := by
  have hy : (i, j + 1) ∈ nextO P Q (i, j) := nextO_mem.2 (.inr (.inl ⟨h1, h2, rfl⟩))
  exact Rnd.put (y := (i, j + 1)) (ms := ovB Q (i, j)) h hx (by rw [ovB, if_pos ⟨h1, h2⟩]) hy (nextO_ok hx _ hy) (by simp only [idx2]; omega)
theorem Rnd2.b0 (h : Rnd2 P Q (i, j) (ovA P (i, j)) l) (hn : ¬ (j < Q.length ∧ starW2 Q j = true)) : Rnd2 P Q (i, j) (ovA P (i, j) ++ ovB Q (i, j)) l :=
  Rnd.more (ms := ovB Q (i, j)) h (by rw [ovB, if_neg hn])
theorem Rnd2.stop (h : Rnd2 P Q (i, j) (ovA P (i, j) ++ ovB Q (i, j)) l) (hx : okPq P Q (i, j)) (hn : i = P.length ∨ j = Q.length) : Fwd2 P Q l (idx2 (i, j + 1)) := by
  rw [← idx2_succ i j]
  refine Rnd.end_ h hx ?_
  have k : ∀ {A : Prop}, ¬ ((i, j).1 < P.length ∧ (i, j).2 < Q.length ∧ A) := by rintro A ⟨a, b, _⟩; simp only at a b; omega
  rw [nextO, ovC, if_neg k, ovD, if_neg k, ovE, if_neg k, List.append_nil, List.append_nil, List.append_nil]
theorem Rnd2.c1 (h : Rnd2 P Q (i, j) (ovA P (i, j) ++ ovB Q (i, j)) l) (hx : okPq P Q (i, j)) (h1 : i < P.length) (h2 : j < Q.length) (hs : starW2 P i = true) (ht : starW2 Q j = false) : Rnd2 P Q (i, j) (ovA P (i, j) ++ ovB Q (i, j) ++ ovC P Q (i, j)) (l.set (idx2 (i, j + 1)) true) := by
  have hy : (i, j + 1) ∈ nextO P Q (i, j) := nextO_mem.2 (.inr (.inr (.inl ⟨h1, h2, hs, ht, rfl⟩)))
  exact Rnd.put (y := (i, j + 1)) (ms := ovC P Q (i, j)) h hx (by rw [ovC, if_pos ⟨h1, h2, hs, ht⟩]) hy (nextO_ok hx _ hy) (by simp only [idx2]; omega)
theorem Rnd2.c0 (h : Rnd2 P Q (i, j) (ovA P (i, j) ++ ovB Q (i, j)) l) (hn : ¬ (starW2 P i = true ∧ starW2 Q j = false)) : Rnd2 P Q (i, j) (ovA P (i, j) ++ ovB Q (i, j) ++ ovC P Q (i, j)) l :=
  Rnd.more (ms := ovC P Q (i, j)) h (by rw [ovC, if_neg (fun h => hn ⟨h.2.2.1, h.2.2.2⟩)])
theorem Rnd2.d1 (h : Rnd2 P Q (i, j) (ovA P (i, j) ++ ovB Q (i, j) ++ ovC P Q (i, j)) l) (hx : okPq P Q (i, j)) (h1 : i < P.length) (h2 : j < Q.length) (hs : starW2 P i = false) (ht : starW2 Q j = true) : Rnd2 P Q (i, j) (ovA P (i, j) ++ ovB Q (i, j) ++ ovC P Q (i, j) ++ ovD P Q (i, j)) (l.set (idx2 (i + 1, j)) true) := by
  have hy : (i + 1, j) ∈ nextO P Q (i, j) := nextO_mem.2 (.inr (.inr (.inr (.inl ⟨h1, h2, hs, ht, rfl⟩))))
  exact Rnd.put (y := (i + 1, j)) (ms := ovD P Q (i, j)) h hx (by rw [ovD, if_pos ⟨h1, h2, hs, ht⟩]) hy (nextO_ok hx _ hy) (by simp only [idx2]; omega)
theorem Rnd2.d0 (h : Rnd2 P Q (i, j) (ovA P (i, j) ++ ovB Q (i, j) ++ ovC P Q (i, j)) l) (hn : ¬ (starW2 P i = false ∧ starW2 Q j = true)) : Rnd2 P Q (i, j) (ovA P (i, j) ++ ovB Q (i, j) ++ ovC P Q (i, j) ++ ovD P Q (i, j)) l :=
  Rnd.more (ms := ovD P Q (i, j)) h (by rw [ovD, if_neg (fun h => hn ⟨h.2.2.1, h.2.2.2⟩)])
theorem Rnd2.e1 (h : Rnd2 P Q (i, j) (ovA P (i, j) ++ ovB Q (i, j) ++ ovC P Q (i, j) ++ ovD P Q (i, j)) l) (hx : okPq P Q (i, j)) (h1 : i < P.length) (h2 : j < Q.length) (hs : starW2 P i = false) (ht : starW2 Q j = false) (hc : commonB P[i] Q[j] = true) : Fwd2 P Q (l.set (idx2 (i + 1, j + 1)) true) (idx2 (i, j + 1)) := by
  rw [← idx2_succ i j]
  have hc' : commonB (P[i]?.getD ⟨#[]⟩) (Q[j]?.getD ⟨#[]⟩) = true := by rw [getD_at h1, getD_at h2]; exact hc
  have hy : (i + 1, j + 1) ∈ nextO P Q (i, j) := nextO_mem.2 (.inr (.inr (.inr (.inr ⟨h1, h2, hs, ht, hc', rfl⟩))))
  exact Rnd.end_ (Rnd.put (y := (i + 1, j + 1)) (ms := ovE P Q (i, j)) h hx (by rw [ovE, if_pos ⟨h1, h2, hs, ht, hc'⟩]) hy (nextO_ok hx _ hy) (by simp only [idx2]; omega)) hx rfl
theorem Rnd2.e0 (h : Rnd2 P Q (i, j) (ovA P (i, j) ++ ovB Q (i, j) ++ ovC P Q (i, j) ++ ovD P Q (i, j)) l) (hx : okPq P Q (i, j)) (h1 : i < P.length) (h2 : j < Q.length) (hn : ¬ (starW2 P i = false ∧ starW2 Q j = false ∧ commonB P[i] Q[j] = true)) : Fwd2 P Q l (idx2 (i, j + 1)) := by
  rw [← idx2_succ i j]
  exact Rnd.end_ (Rnd.more (ms := ovE P Q (i, j)) h (by rw [ovE, if_neg (fun h => hn ⟨h.2.2.1, h.2.2.2.1, by have h7 := h.2.2.2.2; simp only at h7; rw [getD_at h1, getD_at h2] at h7; exact h7⟩)])) hx rfl
end
end Go.Cf
namespace Go.Cf
section
variable {p q : ByteArray} {i j d : Nat} {l : List Bool}
theorem Fwd3.row (h : Fwd3 p q l (i * 248 + j * 4)) (hj : ¬ j ≤ q.size) : Fwd3 p q l ((i + 1) * 248) := h.jump (by
  rintro ⟨x1, x2, x3⟩ ⟨h1, h2, h3⟩ hlt
  simp only at h1 h2 h3
  simp only [idx3] at *
  omega)
theorem Fwd3.all {v : Bool} (h : Fwd3 p q l (i * 248)) (hi : ¬ i ≤ p.size) (hv : l[p.size * 248 + q.size * 4 + 3]? = some v) (hq : q.size ≤ 60) : v = commonB p q := h.answer (by
  rintro ⟨x1, x2, x3⟩ ⟨h1, h2, h3⟩
  simp only at h1 h2 h3
  simp only [idx3]
  omega) hv
theorem Fwd3.enter (h : Fwd3 p q l (i * 248 + j * 4)) : Fwd3 p q l (idx3 (i, j, 0)) := by
  have h7 : idx3 (i, j, 0) = i * 248 + j * 4 := by simp only [idx3]; omega
  rw [h7]; exact h
theorem Fwd3.into (h : Fwd3 p q l (i * 248)) : Fwd3 p q l (i * 248 + 0 * 4) := by
  have h7 : i * 248 + 0 * 4 = i * 248 := by omega
  rw [h7]; exact h
theorem Fwd3.begin_ (hp : p.size ≤ 60) (hq : q.size ≤ 60) : Fwd3 p q ((List.replicate 15376 false).set 0 true) (0 * 248) := by
  have h7 : 0 * 248 = 0 := by omega
  rw [h7]
  exact Fwd.first (idx3_inj hp hq) (idx3_lt hp hq) ⟨Nat.zero_le _, Nat.zero_le _, Nat.zero_le _⟩
theorem Fwd3.cell (h : Fwd3 p q l (idx3 (i, j, d))) (hd : ¬ d < 4) (hd4 : d ≤ 4) : Fwd3 p q l (i * 248 + (j + 1) * 4) := by
  have h7 : idx3 (i, j, d) = i * 248 + (j + 1) * 4 := by simp only [idx3]; omega
  rw [← h7]; exact h
theorem off3 {o : Nat} (i j d : Nat) (h : o = 0 + i * 248 + j * 4 + d * 1) : o = idx3 (i, j, d) * 1 + 0 := by
  rw [h]; simp only [idx3]; omega
end
section
variable {P Q : List ByteArray} {i j : Nat} {l : List Bool}
theorem Fwd2.enter (h : Fwd2 P Q l (i * 62)) : Fwd2 P Q l (idx2 (i, 0)) := by
  have h7 : idx2 (i, 0) = i * 62 := by simp only [idx2]; omega
  rw [h7]; exact h
theorem Fwd2.begin_ (hp : P.length ≤ 61) (hq : Q.length ≤ 61) : Fwd2 P Q ((List.replicate 3844 false).set 0 true) (0 * 62) := by
  have h7 : 0 * 62 = 0 := by omega
  rw [h7]
  exact Fwd.first (idx2_inj hp hq) (idx2_lt hp hq) ⟨Nat.zero_le _, Nat.zero_le _⟩
theorem off2 {o : Nat} (i j : Nat) (h : o = 0 + i * 62 + j * 1) : o = idx2 (i, j) * 1 + 0 := by
  rw [h]; simp only [idx2]; omega
theorem Fwd2.row (h : Fwd2 P Q l (idx2 (i, j))) (hj : ¬ j ≤ Q.length) : Fwd2 P Q l ((i + 1) * 62) := h.jump (by
  rintro ⟨x1, x2⟩ ⟨h1, h2⟩ hlt
  simp only at h1 h2
  simp only [idx2] at *
  omega)
theorem Fwd2.all {v : Bool} (h : Fwd2 P Q l (i * 62)) (hi : ¬ i ≤ P.length) (hv : l[P.length * 62 + Q.length]? = some v) (hq : Q.length ≤ 61) : v = ov P Q := h.answer (by
  rintro ⟨x1, x2⟩ ⟨h1, h2⟩
  simp only at h1 h2
  simp only [idx2]
  omega) hv
end
end Go.Cf
namespace Go.Proofs.YtijpaljdclhehaaDoor
open Go.RowKit Go.Cf
set_option maxRecDepth 100000 in
theorem z2cells : Tryd.zeroCells84 = ((List.replicate 3844 false).flatMap boolCells).toArray := by kernel_rfl
set_option maxRecDepth 100000 in
theorem z3cells : Tryd.zeroCells113 = ((List.replicate 15376 false).flatMap boolCells).toArray := by kernel_rfl
theorem zvTab2 (w : World) : (zeroValue 84).run Tryd.prog w = .ok (.agg ((List.replicate 3844 false).flatMap boolCells).toArray) w := by rw [← z2cells]; exact Tryd.zeroValue84 w
theorem zvTab3 (w : World) : (zeroValue 113).run Tryd.prog w = .ok (.agg ((List.replicate 15376 false).flatMap boolCells).toArray) w := by rw [← z3cells]; exact Tryd.zeroValue113 w
end Go.Proofs.YtijpaljdclhehaaDoor
namespace Go.Cf
open Go.ChangeShapes Go.WideShapes Go.ChangeAt Go.RowKit Go.Deep
theorem trodAll_below {H : Type} {enc : TypeId × Value → H} {P : Program} (hl : laidOutB P = true) {W W' : World} (hb : Below W.heap.size W W') :
    ∀ {ts : List TypeId} {vs : List Value} {ds : List (DataW H)} {ps : List MemPlace}, (∀ t ∈ ts, P.readableRec t = true ∧ t < P.types.size) → DataW.TrodAll enc P W 0 (fun _ => true) true ts vs ds ps →
      DataW.TrodAll enc P W' 0 (fun b => decide (b < W.heap.size)) true ts vs ds ps
  | [], _, _, _, _, h => by
    obtain ⟨rfl, rfl, rfl⟩ := trodAll_nil h
    exact trodAll_mk0
  | t :: ts, _, _, _, hr, h => by
    obtain ⟨v, vs', d, ds', p, q, rfl, rfl, rfl, h1, h2⟩ := trodAll_cons h
    have lt : ∀ x ∈ p, x.block < W.heap.size := by obtain ⟨m, hm⟩ := h1; exact DataW.trod_lt m _ _ _ hm
    exact trodAll_cons_mk (Below.trod hl (hr t (by simp)).1 (hr t (by simp)).2 h1 hb lt) (trodAll_below hl hb (fun t' ht' => hr t' (by simp [ht'])) h2)
section
variable {H : Type} {enc : TypeId × Value → H} {P : Program} {w : World} {t e : TypeId} {v : Value} {d : DataW H} {p : List MemPlace} {b0 : Nat}
theorem weights_each {ts : List TypeId} {ds : List (DataW H)} {t : TypeId} {d : DataW H} (h : (DataW.weightsEach P (t :: ts) (d :: ds)).all (· ≤ reachBytes) = true) :
    (d.weights P t).all (· ≤ reachBytes) = true ∧ (DataW.weightsEach P ts ds).all (· ≤ reachBytes) = true := by
  simpa [DataW.weightsEach, List.all_append] using h
end
end Go.Cf
namespace Go.Proofs.YtijpaljdclhehaaDoor
open Go.RowKit Go.Cf
set_option maxRecDepth 10000
theorem el9 : Elem Tryd.prog 9 1 16 := elem_of (z := .string .empty) (by kernel_rfl) rfl (by decide)
set_option maxHeartbeats 2000000 in
theorem letter_any (w : World) (n : Nat) : Calls Tryd.prog 68 #[.int .u8 (n : Int)] w fun e w' => e = .returned (.bool (letterB n)) ∧ Below w.heap.size w w' := by
  refine gcalls Tryd.func68 rfl Tryd.ntmps68 (Nat.le_of_ble_eq_true rfl) ?_
  refine gfrom [(0, .int _ _)] ⟨rfl, trivial⟩ fun σ => ?_
  refine gseq fun N1 hN1 => ?_
  refine greg ?_
  refine gop (y_assign (v := .bool _) rfl) rfl rfl rfl ?_
  refine gops_nil ?_
  refine hN1 _ _ ?_
  refine gfrom [(0, .int _ _)] ⟨rfl, trivial⟩ fun σ => ?_
  refine gseq fun N2 hN2 => ?_
  refine greg ?_
  refine gop (y_move (v := .int _ _) rfl) rfl rfl rfl ?_
  refine gop (y_geq rfl rfl) rfl rfl rfl ?_
  refine gop (y_move (v := .bool _) rfl) rfl rfl rfl ?_
  refine gop_if (want := true) rfl rfl rfl rfl rfl rfl (fun hg5 => ?_) (fun hg5 => ?_)
  · 
    have hg5d := of_decide_eq_true hg5
    refine gop (y_bare (y_move (v := .int _ _) rfl)) rfl rfl rfl ?_
    refine gop_on rfl rfl rfl rfl hg5 ?_
    refine gop (y_bare (y_leq rfl rfl)) rfl rfl rfl ?_
    refine gop (y_pick_t (v := .bool _) rfl hg5 rfl) rfl rfl rfl ?_
    refine gop (y_move (v := .bool _) rfl) rfl rfl rfl ?_
    refine gop_if (want := false) rfl rfl rfl rfl rfl rfl (fun hg9 => ?_) (fun hg9 => ?_)
    · 
      have hg9d := of_decide_eq_false hg9
      refine gop (y_bare (y_move (v := .int _ _) rfl)) rfl rfl rfl ?_
      refine gop_on rfl rfl rfl rfl hg9 ?_
      refine gop (y_bare (y_geq rfl rfl)) rfl rfl rfl ?_
      refine gop_on rfl rfl rfl rfl hg9 ?_
      refine gop (y_bare (y_move (v := .bool _) rfl)) rfl rfl rfl ?_
      refine gop_if (want := true) rfl rfl rfl rfl rfl rfl (fun hg12 => ?_) (fun hg12 => ?_)
      · 
        have hg12d := of_decide_eq_true hg12
        refine gop (y_bare (y_move (v := .int _ _) rfl)) rfl rfl rfl ?_
        refine gop_on rfl rfl rfl rfl hg12 ?_
        refine gop (y_bare (y_leq rfl rfl)) rfl rfl rfl ?_
        refine gop_on rfl rfl rfl rfl hg9 ?_
        refine gop (y_bare (y_pick_t (v := .bool _) rfl hg12 rfl)) rfl rfl rfl ?_
        refine gop (y_pick_f (v := .bool _) rfl hg9 rfl) rfl rfl rfl ?_
        refine gop (y_move (v := .bool _) rfl) rfl rfl rfl ?_
        refine gop_if (want := false) rfl rfl rfl rfl rfl rfl (fun hg17 => ?_) (fun hg17 => ?_)
        · 
          have hg17d := of_decide_eq_false hg17
          refine gop (y_bare (y_move (v := .int _ _) rfl)) rfl rfl rfl ?_
          refine gop_on rfl rfl rfl rfl hg17 ?_
          refine gop (y_bare (y_geq rfl rfl)) rfl rfl rfl ?_
          refine gop_on rfl rfl rfl rfl hg17 ?_
          refine gop (y_bare (y_move (v := .bool _) rfl)) rfl rfl rfl ?_
          refine gop_if (want := true) rfl rfl rfl rfl rfl rfl (fun hg20 => ?_) (fun hg20 => ?_)
          · 
            have hg20d := of_decide_eq_true hg20
            refine gop (y_bare (y_move (v := .int _ _) rfl)) rfl rfl rfl ?_
            refine gop_on rfl rfl rfl rfl hg20 ?_
            refine gop (y_bare (y_leq rfl rfl)) rfl rfl rfl ?_
            refine gop_on rfl rfl rfl rfl hg17 ?_
            refine gop (y_bare (y_pick_t (v := .bool _) rfl hg20 rfl)) rfl rfl rfl ?_
            refine gop (y_pick_f (v := .bool _) rfl hg17 rfl) rfl rfl rfl ?_
            refine gop (y_move (v := .bool _) rfl) rfl rfl rfl ?_
            refine gop_if (want := false) rfl rfl rfl rfl rfl rfl (fun hg25 => ?_) (fun hg25 => ?_)
            · 
              have hg25d := of_decide_eq_false hg25
              refine gop (y_bare (y_move (v := .int _ _) rfl)) rfl rfl rfl ?_
              refine gop_on rfl rfl rfl rfl hg25 ?_
              refine gop (y_bare (y_eql rfl rfl)) rfl rfl rfl ?_
              refine gop (y_pick_f (v := .bool _) rfl hg25 rfl) rfl rfl rfl ?_
              refine gop (y_move (v := .bool _) rfl) rfl rfl rfl ?_
              refine gop_if (want := false) rfl rfl rfl rfl rfl rfl (fun hg29 => ?_) (fun hg29 => ?_)
              · 
                have hg29d := of_decide_eq_false hg29
                refine gop (y_bare (y_move (v := .int _ _) rfl)) rfl rfl rfl ?_
                refine gop_on rfl rfl rfl rfl hg29 ?_
                refine gop (y_bare (y_eql rfl rfl)) rfl rfl rfl ?_
                refine gop (y_pick_f (v := .bool _) rfl hg29 rfl) rfl rfl rfl ?_
                refine gop (y_move (v := .bool _) rfl) rfl rfl rfl ?_
                refine gop_if (want := false) rfl rfl rfl rfl rfl rfl (fun hg33 => ?_) (fun hg33 => ?_)
                · 
                  have hg33d := of_decide_eq_false hg33
                  refine gop (y_bare (y_move (v := .int _ _) rfl)) rfl rfl rfl ?_
                  refine gop_on rfl rfl rfl rfl hg33 ?_
                  refine gop (y_bare (y_eql rfl rfl)) rfl rfl rfl ?_
                  refine gop (y_pick_f (v := .bool _) rfl hg33 rfl) rfl rfl rfl ?_
                  refine gop (y_assign (v := .bool _) rfl) rfl rfl rfl ?_
                  refine gops_nil ?_
                  refine hN2 _ _ ?_
                  refine gfrom [(2, .bool _)] ⟨rfl, trivial⟩ fun σ => ?_
                  refine gret fun w1 hM => ?_
                  refine ⟨_, res1 rfl (rt (v := .bool _) rfl), ?_⟩
                  first | (exfalso; omega) | exact ⟨by rw [show letterB n = true from decide_eq_true (by omega)], hM.low⟩ | exact ⟨by rw [show letterB n = decide ((n : Int) = 45) from decide_eq_decide.2 (by omega)], hM.low⟩
                · 
                  have hg33d := of_decide_eq_true hg33
                  refine gop_off rfl rfl rfl rfl hg33 rfl rfl ?_
                  refine gop (y_pick_t (v := .bool _) rfl hg33 rfl) rfl rfl rfl ?_
                  refine gop (y_assign (v := .bool _) rfl) rfl rfl rfl ?_
                  refine gops_nil ?_
                  refine hN2 _ _ ?_
                  refine gfrom [(2, .bool _)] ⟨rfl, trivial⟩ fun σ => ?_
                  refine gret fun w1 hM => ?_
                  refine ⟨_, res1 rfl (rt (v := .bool _) rfl), ?_⟩
                  first | (exfalso; omega) | exact ⟨by rw [show letterB n = true from decide_eq_true (by omega)], hM.low⟩ | exact ⟨by rw [show letterB n = decide ((n : Int) = 45) from decide_eq_decide.2 (by omega)], hM.low⟩
              · 
                have hg29d := of_decide_eq_true hg29
                refine gop_off rfl rfl rfl rfl hg29 rfl rfl ?_
                refine gop (y_pick_t (v := .bool _) rfl hg29 rfl) rfl rfl rfl ?_
                refine gop (y_move (v := .bool _) rfl) rfl rfl rfl ?_
                refine gop_off rfl rfl rfl rfl rfl rfl rfl ?_
                refine gop_off rfl rfl rfl rfl rfl rfl rfl ?_
                refine gop (y_pick_t (v := .bool _) rfl rfl rfl) rfl rfl rfl ?_
                refine gop (y_assign (v := .bool _) rfl) rfl rfl rfl ?_
                refine gops_nil ?_
                refine hN2 _ _ ?_
                refine gfrom [(2, .bool _)] ⟨rfl, trivial⟩ fun σ => ?_
                refine gret fun w1 hM => ?_
                refine ⟨_, res1 rfl (rt (v := .bool _) rfl), ?_⟩
                first | (exfalso; omega) | exact ⟨by rw [show letterB n = true from decide_eq_true (by omega)], hM.low⟩ | exact ⟨by rw [show letterB n = decide ((n : Int) = 45) from decide_eq_decide.2 (by omega)], hM.low⟩
            · 
              have hg25d := of_decide_eq_true hg25
              refine gop_off rfl rfl rfl rfl hg25 rfl rfl ?_
              refine gop (y_pick_t (v := .bool _) rfl hg25 rfl) rfl rfl rfl ?_
              refine gop (y_move (v := .bool _) rfl) rfl rfl rfl ?_
              refine gop_off rfl rfl rfl rfl rfl rfl rfl ?_
              refine gop_off rfl rfl rfl rfl rfl rfl rfl ?_
              refine gop (y_pick_t (v := .bool _) rfl rfl rfl) rfl rfl rfl ?_
              refine gop (y_move (v := .bool _) rfl) rfl rfl rfl ?_
              refine gop_off rfl rfl rfl rfl rfl rfl rfl ?_
              refine gop_off rfl rfl rfl rfl rfl rfl rfl ?_
              refine gop (y_pick_t (v := .bool _) rfl rfl rfl) rfl rfl rfl ?_
              refine gop (y_assign (v := .bool _) rfl) rfl rfl rfl ?_
              refine gops_nil ?_
              refine hN2 _ _ ?_
              refine gfrom [(2, .bool _)] ⟨rfl, trivial⟩ fun σ => ?_
              refine gret fun w1 hM => ?_
              refine ⟨_, res1 rfl (rt (v := .bool _) rfl), ?_⟩
              first | (exfalso; omega) | exact ⟨by rw [show letterB n = true from decide_eq_true (by omega)], hM.low⟩ | exact ⟨by rw [show letterB n = decide ((n : Int) = 45) from decide_eq_decide.2 (by omega)], hM.low⟩
          · 
            have hg20d := of_decide_eq_false hg20
            refine gop_off rfl rfl rfl rfl hg20 rfl rfl ?_
            refine gop_on rfl rfl rfl rfl hg17 ?_
            refine gop (y_bare (y_pick_f (v := .bool _) rfl hg20 rfl)) rfl rfl rfl ?_
            refine gop (y_pick_f (v := .bool _) rfl hg17 rfl) rfl rfl rfl ?_
            refine gop (y_move (v := .bool _) rfl) rfl rfl rfl ?_
            refine gop_on rfl rfl rfl rfl rfl ?_
            refine gop (y_bare (y_move (v := .int _ _) rfl)) rfl rfl rfl ?_
            refine gop_on rfl rfl rfl rfl rfl ?_
            refine gop (y_bare (y_eql rfl rfl)) rfl rfl rfl ?_
            refine gop (y_pick_f (v := .bool _) rfl rfl rfl) rfl rfl rfl ?_
            refine gop (y_move (v := .bool _) rfl) rfl rfl rfl ?_
            refine gop_if (want := false) rfl rfl rfl rfl rfl rfl (fun hg29 => ?_) (fun hg29 => ?_)
            · 
              have hg29d := of_decide_eq_false hg29
              refine gop (y_bare (y_move (v := .int _ _) rfl)) rfl rfl rfl ?_
              refine gop_on rfl rfl rfl rfl hg29 ?_
              refine gop (y_bare (y_eql rfl rfl)) rfl rfl rfl ?_
              refine gop (y_pick_f (v := .bool _) rfl hg29 rfl) rfl rfl rfl ?_
              refine gop (y_move (v := .bool _) rfl) rfl rfl rfl ?_
              refine gop_if (want := false) rfl rfl rfl rfl rfl rfl (fun hg33 => ?_) (fun hg33 => ?_)
              · 
                have hg33d := of_decide_eq_false hg33
                refine gop (y_bare (y_move (v := .int _ _) rfl)) rfl rfl rfl ?_
                refine gop_on rfl rfl rfl rfl hg33 ?_
                refine gop (y_bare (y_eql rfl rfl)) rfl rfl rfl ?_
                refine gop (y_pick_f (v := .bool _) rfl hg33 rfl) rfl rfl rfl ?_
                refine gop (y_assign (v := .bool _) rfl) rfl rfl rfl ?_
                refine gops_nil ?_
                refine hN2 _ _ ?_
                refine gfrom [(2, .bool _)] ⟨rfl, trivial⟩ fun σ => ?_
                refine gret fun w1 hM => ?_
                refine ⟨_, res1 rfl (rt (v := .bool _) rfl), ?_⟩
                first | (exfalso; omega) | exact ⟨by rw [show letterB n = true from decide_eq_true (by omega)], hM.low⟩ | exact ⟨by rw [show letterB n = decide ((n : Int) = 45) from decide_eq_decide.2 (by omega)], hM.low⟩
              · 
                have hg33d := of_decide_eq_true hg33
                refine gop_off rfl rfl rfl rfl hg33 rfl rfl ?_
                refine gop (y_pick_t (v := .bool _) rfl hg33 rfl) rfl rfl rfl ?_
                refine gop (y_assign (v := .bool _) rfl) rfl rfl rfl ?_
                refine gops_nil ?_
                refine hN2 _ _ ?_
                refine gfrom [(2, .bool _)] ⟨rfl, trivial⟩ fun σ => ?_
                refine gret fun w1 hM => ?_
                refine ⟨_, res1 rfl (rt (v := .bool _) rfl), ?_⟩
                first | (exfalso; omega) | exact ⟨by rw [show letterB n = true from decide_eq_true (by omega)], hM.low⟩ | exact ⟨by rw [show letterB n = decide ((n : Int) = 45) from decide_eq_decide.2 (by omega)], hM.low⟩
            · 
              have hg29d := of_decide_eq_true hg29
              refine gop_off rfl rfl rfl rfl hg29 rfl rfl ?_
              refine gop (y_pick_t (v := .bool _) rfl hg29 rfl) rfl rfl rfl ?_
              refine gop (y_move (v := .bool _) rfl) rfl rfl rfl ?_
              refine gop_off rfl rfl rfl rfl rfl rfl rfl ?_
              refine gop_off rfl rfl rfl rfl rfl rfl rfl ?_
              refine gop (y_pick_t (v := .bool _) rfl rfl rfl) rfl rfl rfl ?_
              refine gop (y_assign (v := .bool _) rfl) rfl rfl rfl ?_
              refine gops_nil ?_
              refine hN2 _ _ ?_
              refine gfrom [(2, .bool _)] ⟨rfl, trivial⟩ fun σ => ?_
              refine gret fun w1 hM => ?_
              refine ⟨_, res1 rfl (rt (v := .bool _) rfl), ?_⟩
              first | (exfalso; omega) | exact ⟨by rw [show letterB n = true from decide_eq_true (by omega)], hM.low⟩ | exact ⟨by rw [show letterB n = decide ((n : Int) = 45) from decide_eq_decide.2 (by omega)], hM.low⟩
        · 
          have hg17d := of_decide_eq_true hg17
          refine gop_off rfl rfl rfl rfl hg17 rfl rfl ?_
          refine gop_off rfl rfl rfl rfl hg17 rfl rfl ?_
          refine gop_offu rfl rfl rfl rfl rfl rfl ?_
          refine gop_offu rfl rfl rfl rfl rfl rfl ?_
          refine gop_off rfl rfl rfl rfl hg17 rfl rfl ?_
          refine gop (y_pick_t (v := .bool _) rfl hg17 rfl) rfl rfl rfl ?_
          refine gop (y_move (v := .bool _) rfl) rfl rfl rfl ?_
          refine gop_off rfl rfl rfl rfl rfl rfl rfl ?_
          refine gop_off rfl rfl rfl rfl rfl rfl rfl ?_
          refine gop (y_pick_t (v := .bool _) rfl rfl rfl) rfl rfl rfl ?_
          refine gop (y_move (v := .bool _) rfl) rfl rfl rfl ?_
          refine gop_off rfl rfl rfl rfl rfl rfl rfl ?_
          refine gop_off rfl rfl rfl rfl rfl rfl rfl ?_
          refine gop (y_pick_t (v := .bool _) rfl rfl rfl) rfl rfl rfl ?_
          refine gop (y_move (v := .bool _) rfl) rfl rfl rfl ?_
          refine gop_off rfl rfl rfl rfl rfl rfl rfl ?_
          refine gop_off rfl rfl rfl rfl rfl rfl rfl ?_
          refine gop (y_pick_t (v := .bool _) rfl rfl rfl) rfl rfl rfl ?_
          refine gop (y_assign (v := .bool _) rfl) rfl rfl rfl ?_
          refine gops_nil ?_
          refine hN2 _ _ ?_
          refine gfrom [(2, .bool _)] ⟨rfl, trivial⟩ fun σ => ?_
          refine gret fun w1 hM => ?_
          refine ⟨_, res1 rfl (rt (v := .bool _) rfl), ?_⟩
          first | (exfalso; omega) | exact ⟨by rw [show letterB n = true from decide_eq_true (by omega)], hM.low⟩ | exact ⟨by rw [show letterB n = decide ((n : Int) = 45) from decide_eq_decide.2 (by omega)], hM.low⟩
      · 
        have hg12d := of_decide_eq_false hg12
        refine gop_off rfl rfl rfl rfl hg12 rfl rfl ?_
        refine gop_on rfl rfl rfl rfl hg9 ?_
        refine gop (y_bare (y_pick_f (v := .bool _) rfl hg12 rfl)) rfl rfl rfl ?_
        refine gop (y_pick_f (v := .bool _) rfl hg9 rfl) rfl rfl rfl ?_
        refine gop (y_move (v := .bool _) rfl) rfl rfl rfl ?_
        refine gop_on rfl rfl rfl rfl rfl ?_
        refine gop (y_bare (y_move (v := .int _ _) rfl)) rfl rfl rfl ?_
        refine gop_on rfl rfl rfl rfl rfl ?_
        refine gop (y_bare (y_geq rfl rfl)) rfl rfl rfl ?_
        refine gop_on rfl rfl rfl rfl rfl ?_
        refine gop (y_bare (y_move (v := .bool _) rfl)) rfl rfl rfl ?_
        refine gop_if (want := true) rfl rfl rfl rfl rfl rfl (fun hg20 => ?_) (fun hg20 => ?_)
        · 
          have hg20d := of_decide_eq_true hg20
          refine gop (y_bare (y_move (v := .int _ _) rfl)) rfl rfl rfl ?_
          refine gop_on rfl rfl rfl rfl hg20 ?_
          refine gop (y_bare (y_leq rfl rfl)) rfl rfl rfl ?_
          refine gop_on rfl rfl rfl rfl rfl ?_
          refine gop (y_bare (y_pick_t (v := .bool _) rfl hg20 rfl)) rfl rfl rfl ?_
          refine gop (y_pick_f (v := .bool _) rfl rfl rfl) rfl rfl rfl ?_
          refine gop (y_move (v := .bool _) rfl) rfl rfl rfl ?_
          refine gop_if (want := false) rfl rfl rfl rfl rfl rfl (fun hg25 => ?_) (fun hg25 => ?_)
          · 
            have hg25d := of_decide_eq_false hg25
            refine gop (y_bare (y_move (v := .int _ _) rfl)) rfl rfl rfl ?_
            refine gop_on rfl rfl rfl rfl hg25 ?_
            refine gop (y_bare (y_eql rfl rfl)) rfl rfl rfl ?_
            refine gop (y_pick_f (v := .bool _) rfl hg25 rfl) rfl rfl rfl ?_
            refine gop (y_move (v := .bool _) rfl) rfl rfl rfl ?_
            refine gop_if (want := false) rfl rfl rfl rfl rfl rfl (fun hg29 => ?_) (fun hg29 => ?_)
            · 
              have hg29d := of_decide_eq_false hg29
              refine gop (y_bare (y_move (v := .int _ _) rfl)) rfl rfl rfl ?_
              refine gop_on rfl rfl rfl rfl hg29 ?_
              refine gop (y_bare (y_eql rfl rfl)) rfl rfl rfl ?_
              refine gop (y_pick_f (v := .bool _) rfl hg29 rfl) rfl rfl rfl ?_
              refine gop (y_move (v := .bool _) rfl) rfl rfl rfl ?_
              refine gop_if (want := false) rfl rfl rfl rfl rfl rfl (fun hg33 => ?_) (fun hg33 => ?_)
              · 
                have hg33d := of_decide_eq_false hg33
                refine gop (y_bare (y_move (v := .int _ _) rfl)) rfl rfl rfl ?_
                refine gop_on rfl rfl rfl rfl hg33 ?_
                refine gop (y_bare (y_eql rfl rfl)) rfl rfl rfl ?_
                refine gop (y_pick_f (v := .bool _) rfl hg33 rfl) rfl rfl rfl ?_
                refine gop (y_assign (v := .bool _) rfl) rfl rfl rfl ?_
                refine gops_nil ?_
                refine hN2 _ _ ?_
                refine gfrom [(2, .bool _)] ⟨rfl, trivial⟩ fun σ => ?_
                refine gret fun w1 hM => ?_
                refine ⟨_, res1 rfl (rt (v := .bool _) rfl), ?_⟩
                first | (exfalso; omega) | exact ⟨by rw [show letterB n = true from decide_eq_true (by omega)], hM.low⟩ | exact ⟨by rw [show letterB n = decide ((n : Int) = 45) from decide_eq_decide.2 (by omega)], hM.low⟩
              · 
                have hg33d := of_decide_eq_true hg33
                refine gop_off rfl rfl rfl rfl hg33 rfl rfl ?_
                refine gop (y_pick_t (v := .bool _) rfl hg33 rfl) rfl rfl rfl ?_
                refine gop (y_assign (v := .bool _) rfl) rfl rfl rfl ?_
                refine gops_nil ?_
                refine hN2 _ _ ?_
                refine gfrom [(2, .bool _)] ⟨rfl, trivial⟩ fun σ => ?_
                refine gret fun w1 hM => ?_
                refine ⟨_, res1 rfl (rt (v := .bool _) rfl), ?_⟩
                first | (exfalso; omega) | exact ⟨by rw [show letterB n = true from decide_eq_true (by omega)], hM.low⟩ | exact ⟨by rw [show letterB n = decide ((n : Int) = 45) from decide_eq_decide.2 (by omega)], hM.low⟩
            · 
              have hg29d := of_decide_eq_true hg29
              refine gop_off rfl rfl rfl rfl hg29 rfl rfl ?_
              refine gop (y_pick_t (v := .bool _) rfl hg29 rfl) rfl rfl rfl ?_
              refine gop (y_move (v := .bool _) rfl) rfl rfl rfl ?_
              refine gop_off rfl rfl rfl rfl rfl rfl rfl ?_
              refine gop_off rfl rfl rfl rfl rfl rfl rfl ?_
              refine gop (y_pick_t (v := .bool _) rfl rfl rfl) rfl rfl rfl ?_
              refine gop (y_assign (v := .bool _) rfl) rfl rfl rfl ?_
              refine gops_nil ?_
              refine hN2 _ _ ?_
              refine gfrom [(2, .bool _)] ⟨rfl, trivial⟩ fun σ => ?_
              refine gret fun w1 hM => ?_
              refine ⟨_, res1 rfl (rt (v := .bool _) rfl), ?_⟩
              first | (exfalso; omega) | exact ⟨by rw [show letterB n = true from decide_eq_true (by omega)], hM.low⟩ | exact ⟨by rw [show letterB n = decide ((n : Int) = 45) from decide_eq_decide.2 (by omega)], hM.low⟩
          · 
            have hg25d := of_decide_eq_true hg25
            refine gop_off rfl rfl rfl rfl hg25 rfl rfl ?_
            refine gop (y_pick_t (v := .bool _) rfl hg25 rfl) rfl rfl rfl ?_
            refine gop (y_move (v := .bool _) rfl) rfl rfl rfl ?_
            refine gop_off rfl rfl rfl rfl rfl rfl rfl ?_
            refine gop_off rfl rfl rfl rfl rfl rfl rfl ?_
            refine gop (y_pick_t (v := .bool _) rfl rfl rfl) rfl rfl rfl ?_
            refine gop (y_move (v := .bool _) rfl) rfl rfl rfl ?_
            refine gop_off rfl rfl rfl rfl rfl rfl rfl ?_
            refine gop_off rfl rfl rfl rfl rfl rfl rfl ?_
            refine gop (y_pick_t (v := .bool _) rfl rfl rfl) rfl rfl rfl ?_
            refine gop (y_assign (v := .bool _) rfl) rfl rfl rfl ?_
            refine gops_nil ?_
            refine hN2 _ _ ?_
            refine gfrom [(2, .bool _)] ⟨rfl, trivial⟩ fun σ => ?_
            refine gret fun w1 hM => ?_
            refine ⟨_, res1 rfl (rt (v := .bool _) rfl), ?_⟩
            first | (exfalso; omega) | exact ⟨by rw [show letterB n = true from decide_eq_true (by omega)], hM.low⟩ | exact ⟨by rw [show letterB n = decide ((n : Int) = 45) from decide_eq_decide.2 (by omega)], hM.low⟩
        · 
          have hg20d := of_decide_eq_false hg20
          refine gop_off rfl rfl rfl rfl hg20 rfl rfl ?_
          refine gop_on rfl rfl rfl rfl rfl ?_
          refine gop (y_bare (y_pick_f (v := .bool _) rfl hg20 rfl)) rfl rfl rfl ?_
          refine gop (y_pick_f (v := .bool _) rfl rfl rfl) rfl rfl rfl ?_
          refine gop (y_move (v := .bool _) rfl) rfl rfl rfl ?_
          refine gop_on rfl rfl rfl rfl rfl ?_
          refine gop (y_bare (y_move (v := .int _ _) rfl)) rfl rfl rfl ?_
          refine gop_on rfl rfl rfl rfl rfl ?_
          refine gop (y_bare (y_eql rfl rfl)) rfl rfl rfl ?_
          refine gop (y_pick_f (v := .bool _) rfl rfl rfl) rfl rfl rfl ?_
          refine gop (y_move (v := .bool _) rfl) rfl rfl rfl ?_
          refine gop_if (want := false) rfl rfl rfl rfl rfl rfl (fun hg29 => ?_) (fun hg29 => ?_)
          · 
            have hg29d := of_decide_eq_false hg29
            refine gop (y_bare (y_move (v := .int _ _) rfl)) rfl rfl rfl ?_
            refine gop_on rfl rfl rfl rfl hg29 ?_
            refine gop (y_bare (y_eql rfl rfl)) rfl rfl rfl ?_
            refine gop (y_pick_f (v := .bool _) rfl hg29 rfl) rfl rfl rfl ?_
            refine gop (y_move (v := .bool _) rfl) rfl rfl rfl ?_
            refine gop_if (want := false) rfl rfl rfl rfl rfl rfl (fun hg33 => ?_) (fun hg33 => ?_)
            · 
              have hg33d := of_decide_eq_false hg33
              refine gop (y_bare (y_move (v := .int _ _) rfl)) rfl rfl rfl ?_
              refine gop_on rfl rfl rfl rfl hg33 ?_
              refine gop (y_bare (y_eql rfl rfl)) rfl rfl rfl ?_
              refine gop (y_pick_f (v := .bool _) rfl hg33 rfl) rfl rfl rfl ?_
              refine gop (y_assign (v := .bool _) rfl) rfl rfl rfl ?_
              refine gops_nil ?_
              refine hN2 _ _ ?_
              refine gfrom [(2, .bool _)] ⟨rfl, trivial⟩ fun σ => ?_
              refine gret fun w1 hM => ?_
              refine ⟨_, res1 rfl (rt (v := .bool _) rfl), ?_⟩
              first | (exfalso; omega) | exact ⟨by rw [show letterB n = true from decide_eq_true (by omega)], hM.low⟩ | exact ⟨by rw [show letterB n = decide ((n : Int) = 45) from decide_eq_decide.2 (by omega)], hM.low⟩
            · 
              have hg33d := of_decide_eq_true hg33
              refine gop_off rfl rfl rfl rfl hg33 rfl rfl ?_
              refine gop (y_pick_t (v := .bool _) rfl hg33 rfl) rfl rfl rfl ?_
              refine gop (y_assign (v := .bool _) rfl) rfl rfl rfl ?_
              refine gops_nil ?_
              refine hN2 _ _ ?_
              refine gfrom [(2, .bool _)] ⟨rfl, trivial⟩ fun σ => ?_
              refine gret fun w1 hM => ?_
              refine ⟨_, res1 rfl (rt (v := .bool _) rfl), ?_⟩
              first | (exfalso; omega) | exact ⟨by rw [show letterB n = true from decide_eq_true (by omega)], hM.low⟩ | exact ⟨by rw [show letterB n = decide ((n : Int) = 45) from decide_eq_decide.2 (by omega)], hM.low⟩
          · 
            have hg29d := of_decide_eq_true hg29
            refine gop_off rfl rfl rfl rfl hg29 rfl rfl ?_
            refine gop (y_pick_t (v := .bool _) rfl hg29 rfl) rfl rfl rfl ?_
            refine gop (y_move (v := .bool _) rfl) rfl rfl rfl ?_
            refine gop_off rfl rfl rfl rfl rfl rfl rfl ?_
            refine gop_off rfl rfl rfl rfl rfl rfl rfl ?_
            refine gop (y_pick_t (v := .bool _) rfl rfl rfl) rfl rfl rfl ?_
            refine gop (y_assign (v := .bool _) rfl) rfl rfl rfl ?_
            refine gops_nil ?_
            refine hN2 _ _ ?_
            refine gfrom [(2, .bool _)] ⟨rfl, trivial⟩ fun σ => ?_
            refine gret fun w1 hM => ?_
            refine ⟨_, res1 rfl (rt (v := .bool _) rfl), ?_⟩
            first | (exfalso; omega) | exact ⟨by rw [show letterB n = true from decide_eq_true (by omega)], hM.low⟩ | exact ⟨by rw [show letterB n = decide ((n : Int) = 45) from decide_eq_decide.2 (by omega)], hM.low⟩
    · 
      have hg9d := of_decide_eq_true hg9
      refine gop_off rfl rfl rfl rfl hg9 rfl rfl ?_
      refine gop_off rfl rfl rfl rfl hg9 rfl rfl ?_
      refine gop_offu rfl rfl rfl rfl rfl rfl ?_
      refine gop_offu rfl rfl rfl rfl rfl rfl ?_
      refine gop_off rfl rfl rfl rfl hg9 rfl rfl ?_
      refine gop (y_pick_t (v := .bool _) rfl hg9 rfl) rfl rfl rfl ?_
      refine gop (y_move (v := .bool _) rfl) rfl rfl rfl ?_
      refine gop_off rfl rfl rfl rfl rfl rfl rfl ?_
      refine gop_off rfl rfl rfl rfl rfl rfl rfl ?_
      refine gop_off rfl rfl rfl rfl rfl rfl rfl ?_
      refine gop_offu rfl rfl rfl rfl rfl rfl ?_
      refine gop_offu rfl rfl rfl rfl rfl rfl ?_
      refine gop_off rfl rfl rfl rfl rfl rfl rfl ?_
      refine gop (y_pick_t (v := .bool _) rfl rfl rfl) rfl rfl rfl ?_
      refine gop (y_move (v := .bool _) rfl) rfl rfl rfl ?_
      refine gop_off rfl rfl rfl rfl rfl rfl rfl ?_
      refine gop_off rfl rfl rfl rfl rfl rfl rfl ?_
      refine gop (y_pick_t (v := .bool _) rfl rfl rfl) rfl rfl rfl ?_
      refine gop (y_move (v := .bool _) rfl) rfl rfl rfl ?_
      refine gop_off rfl rfl rfl rfl rfl rfl rfl ?_
      refine gop_off rfl rfl rfl rfl rfl rfl rfl ?_
      refine gop (y_pick_t (v := .bool _) rfl rfl rfl) rfl rfl rfl ?_
      refine gop (y_move (v := .bool _) rfl) rfl rfl rfl ?_
      refine gop_off rfl rfl rfl rfl rfl rfl rfl ?_
      refine gop_off rfl rfl rfl rfl rfl rfl rfl ?_
      refine gop (y_pick_t (v := .bool _) rfl rfl rfl) rfl rfl rfl ?_
      refine gop (y_assign (v := .bool _) rfl) rfl rfl rfl ?_
      refine gops_nil ?_
      refine hN2 _ _ ?_
      refine gfrom [(2, .bool _)] ⟨rfl, trivial⟩ fun σ => ?_
      refine gret fun w1 hM => ?_
      refine ⟨_, res1 rfl (rt (v := .bool _) rfl), ?_⟩
      first | (exfalso; omega) | exact ⟨by rw [show letterB n = true from decide_eq_true (by omega)], hM.low⟩ | exact ⟨by rw [show letterB n = decide ((n : Int) = 45) from decide_eq_decide.2 (by omega)], hM.low⟩
  · 
    have hg5d := of_decide_eq_false hg5
    refine gop_off rfl rfl rfl rfl hg5 rfl rfl ?_
    refine gop (y_pick_f (v := .bool _) rfl hg5 rfl) rfl rfl rfl ?_
    refine gop (y_move (v := .bool _) rfl) rfl rfl rfl ?_
    refine gop_on rfl rfl rfl rfl rfl ?_
    refine gop (y_bare (y_move (v := .int _ _) rfl)) rfl rfl rfl ?_
    refine gop_on rfl rfl rfl rfl rfl ?_
    refine gop (y_bare (y_geq rfl rfl)) rfl rfl rfl ?_
    refine gop_on rfl rfl rfl rfl rfl ?_
    refine gop (y_bare (y_move (v := .bool _) rfl)) rfl rfl rfl ?_
    refine gop_if (want := true) rfl rfl rfl rfl rfl rfl (fun hg12 => ?_) (fun hg12 => ?_)
    · 
      have hg12d := of_decide_eq_true hg12
      refine gop (y_bare (y_move (v := .int _ _) rfl)) rfl rfl rfl ?_
      refine gop_on rfl rfl rfl rfl hg12 ?_
      refine gop (y_bare (y_leq rfl rfl)) rfl rfl rfl ?_
      refine gop_on rfl rfl rfl rfl rfl ?_
      refine gop (y_bare (y_pick_t (v := .bool _) rfl hg12 rfl)) rfl rfl rfl ?_
      refine gop (y_pick_f (v := .bool _) rfl rfl rfl) rfl rfl rfl ?_
      refine gop (y_move (v := .bool _) rfl) rfl rfl rfl ?_
      refine gop_if (want := false) rfl rfl rfl rfl rfl rfl (fun hg17 => ?_) (fun hg17 => ?_)
      · 
        have hg17d := of_decide_eq_false hg17
        refine gop (y_bare (y_move (v := .int _ _) rfl)) rfl rfl rfl ?_
        refine gop_on rfl rfl rfl rfl hg17 ?_
        refine gop (y_bare (y_geq rfl rfl)) rfl rfl rfl ?_
        refine gop_on rfl rfl rfl rfl hg17 ?_
        refine gop (y_bare (y_move (v := .bool _) rfl)) rfl rfl rfl ?_
        refine gop_if (want := true) rfl rfl rfl rfl rfl rfl (fun hg20 => ?_) (fun hg20 => ?_)
        · 
          have hg20d := of_decide_eq_true hg20
          refine gop (y_bare (y_move (v := .int _ _) rfl)) rfl rfl rfl ?_
          refine gop_on rfl rfl rfl rfl hg20 ?_
          refine gop (y_bare (y_leq rfl rfl)) rfl rfl rfl ?_
          refine gop_on rfl rfl rfl rfl hg17 ?_
          refine gop (y_bare (y_pick_t (v := .bool _) rfl hg20 rfl)) rfl rfl rfl ?_
          refine gop (y_pick_f (v := .bool _) rfl hg17 rfl) rfl rfl rfl ?_
          refine gop (y_move (v := .bool _) rfl) rfl rfl rfl ?_
          refine gop_if (want := false) rfl rfl rfl rfl rfl rfl (fun hg25 => ?_) (fun hg25 => ?_)
          · 
            have hg25d := of_decide_eq_false hg25
            refine gop (y_bare (y_move (v := .int _ _) rfl)) rfl rfl rfl ?_
            refine gop_on rfl rfl rfl rfl hg25 ?_
            refine gop (y_bare (y_eql rfl rfl)) rfl rfl rfl ?_
            refine gop (y_pick_f (v := .bool _) rfl hg25 rfl) rfl rfl rfl ?_
            refine gop (y_move (v := .bool _) rfl) rfl rfl rfl ?_
            refine gop_if (want := false) rfl rfl rfl rfl rfl rfl (fun hg29 => ?_) (fun hg29 => ?_)
            · 
              have hg29d := of_decide_eq_false hg29
              refine gop (y_bare (y_move (v := .int _ _) rfl)) rfl rfl rfl ?_
              refine gop_on rfl rfl rfl rfl hg29 ?_
              refine gop (y_bare (y_eql rfl rfl)) rfl rfl rfl ?_
              refine gop (y_pick_f (v := .bool _) rfl hg29 rfl) rfl rfl rfl ?_
              refine gop (y_move (v := .bool _) rfl) rfl rfl rfl ?_
              refine gop_if (want := false) rfl rfl rfl rfl rfl rfl (fun hg33 => ?_) (fun hg33 => ?_)
              · 
                have hg33d := of_decide_eq_false hg33
                refine gop (y_bare (y_move (v := .int _ _) rfl)) rfl rfl rfl ?_
                refine gop_on rfl rfl rfl rfl hg33 ?_
                refine gop (y_bare (y_eql rfl rfl)) rfl rfl rfl ?_
                refine gop (y_pick_f (v := .bool _) rfl hg33 rfl) rfl rfl rfl ?_
                refine gop (y_assign (v := .bool _) rfl) rfl rfl rfl ?_
                refine gops_nil ?_
                refine hN2 _ _ ?_
                refine gfrom [(2, .bool _)] ⟨rfl, trivial⟩ fun σ => ?_
                refine gret fun w1 hM => ?_
                refine ⟨_, res1 rfl (rt (v := .bool _) rfl), ?_⟩
                first | (exfalso; omega) | exact ⟨by rw [show letterB n = true from decide_eq_true (by omega)], hM.low⟩ | exact ⟨by rw [show letterB n = decide ((n : Int) = 45) from decide_eq_decide.2 (by omega)], hM.low⟩
              · 
                have hg33d := of_decide_eq_true hg33
                refine gop_off rfl rfl rfl rfl hg33 rfl rfl ?_
                refine gop (y_pick_t (v := .bool _) rfl hg33 rfl) rfl rfl rfl ?_
                refine gop (y_assign (v := .bool _) rfl) rfl rfl rfl ?_
                refine gops_nil ?_
                refine hN2 _ _ ?_
                refine gfrom [(2, .bool _)] ⟨rfl, trivial⟩ fun σ => ?_
                refine gret fun w1 hM => ?_
                refine ⟨_, res1 rfl (rt (v := .bool _) rfl), ?_⟩
                first | (exfalso; omega) | exact ⟨by rw [show letterB n = true from decide_eq_true (by omega)], hM.low⟩ | exact ⟨by rw [show letterB n = decide ((n : Int) = 45) from decide_eq_decide.2 (by omega)], hM.low⟩
            · 
              have hg29d := of_decide_eq_true hg29
              refine gop_off rfl rfl rfl rfl hg29 rfl rfl ?_
              refine gop (y_pick_t (v := .bool _) rfl hg29 rfl) rfl rfl rfl ?_
              refine gop (y_move (v := .bool _) rfl) rfl rfl rfl ?_
              refine gop_off rfl rfl rfl rfl rfl rfl rfl ?_
              refine gop_off rfl rfl rfl rfl rfl rfl rfl ?_
              refine gop (y_pick_t (v := .bool _) rfl rfl rfl) rfl rfl rfl ?_
              refine gop (y_assign (v := .bool _) rfl) rfl rfl rfl ?_
              refine gops_nil ?_
              refine hN2 _ _ ?_
              refine gfrom [(2, .bool _)] ⟨rfl, trivial⟩ fun σ => ?_
              refine gret fun w1 hM => ?_
              refine ⟨_, res1 rfl (rt (v := .bool _) rfl), ?_⟩
              first | (exfalso; omega) | exact ⟨by rw [show letterB n = true from decide_eq_true (by omega)], hM.low⟩ | exact ⟨by rw [show letterB n = decide ((n : Int) = 45) from decide_eq_decide.2 (by omega)], hM.low⟩
          · 
            have hg25d := of_decide_eq_true hg25
            refine gop_off rfl rfl rfl rfl hg25 rfl rfl ?_
            refine gop (y_pick_t (v := .bool _) rfl hg25 rfl) rfl rfl rfl ?_
            refine gop (y_move (v := .bool _) rfl) rfl rfl rfl ?_
            refine gop_off rfl rfl rfl rfl rfl rfl rfl ?_
            refine gop_off rfl rfl rfl rfl rfl rfl rfl ?_
            refine gop (y_pick_t (v := .bool _) rfl rfl rfl) rfl rfl rfl ?_
            refine gop (y_move (v := .bool _) rfl) rfl rfl rfl ?_
            refine gop_off rfl rfl rfl rfl rfl rfl rfl ?_
            refine gop_off rfl rfl rfl rfl rfl rfl rfl ?_
            refine gop (y_pick_t (v := .bool _) rfl rfl rfl) rfl rfl rfl ?_
            refine gop (y_assign (v := .bool _) rfl) rfl rfl rfl ?_
            refine gops_nil ?_
            refine hN2 _ _ ?_
            refine gfrom [(2, .bool _)] ⟨rfl, trivial⟩ fun σ => ?_
            refine gret fun w1 hM => ?_
            refine ⟨_, res1 rfl (rt (v := .bool _) rfl), ?_⟩
            first | (exfalso; omega) | exact ⟨by rw [show letterB n = true from decide_eq_true (by omega)], hM.low⟩ | exact ⟨by rw [show letterB n = decide ((n : Int) = 45) from decide_eq_decide.2 (by omega)], hM.low⟩
        · 
          have hg20d := of_decide_eq_false hg20
          refine gop_off rfl rfl rfl rfl hg20 rfl rfl ?_
          refine gop_on rfl rfl rfl rfl hg17 ?_
          refine gop (y_bare (y_pick_f (v := .bool _) rfl hg20 rfl)) rfl rfl rfl ?_
          refine gop (y_pick_f (v := .bool _) rfl hg17 rfl) rfl rfl rfl ?_
          refine gop (y_move (v := .bool _) rfl) rfl rfl rfl ?_
          refine gop_on rfl rfl rfl rfl rfl ?_
          refine gop (y_bare (y_move (v := .int _ _) rfl)) rfl rfl rfl ?_
          refine gop_on rfl rfl rfl rfl rfl ?_
          refine gop (y_bare (y_eql rfl rfl)) rfl rfl rfl ?_
          refine gop (y_pick_f (v := .bool _) rfl rfl rfl) rfl rfl rfl ?_
          refine gop (y_move (v := .bool _) rfl) rfl rfl rfl ?_
          refine gop_if (want := false) rfl rfl rfl rfl rfl rfl (fun hg29 => ?_) (fun hg29 => ?_)
          · 
            have hg29d := of_decide_eq_false hg29
            refine gop (y_bare (y_move (v := .int _ _) rfl)) rfl rfl rfl ?_
            refine gop_on rfl rfl rfl rfl hg29 ?_
            refine gop (y_bare (y_eql rfl rfl)) rfl rfl rfl ?_
            refine gop (y_pick_f (v := .bool _) rfl hg29 rfl) rfl rfl rfl ?_
            refine gop (y_move (v := .bool _) rfl) rfl rfl rfl ?_
            refine gop_if (want := false) rfl rfl rfl rfl rfl rfl (fun hg33 => ?_) (fun hg33 => ?_)
            · 
              have hg33d := of_decide_eq_false hg33
              refine gop (y_bare (y_move (v := .int _ _) rfl)) rfl rfl rfl ?_
              refine gop_on rfl rfl rfl rfl hg33 ?_
              refine gop (y_bare (y_eql rfl rfl)) rfl rfl rfl ?_
              refine gop (y_pick_f (v := .bool _) rfl hg33 rfl) rfl rfl rfl ?_
              refine gop (y_assign (v := .bool _) rfl) rfl rfl rfl ?_
              refine gops_nil ?_
              refine hN2 _ _ ?_
              refine gfrom [(2, .bool _)] ⟨rfl, trivial⟩ fun σ => ?_
              refine gret fun w1 hM => ?_
              refine ⟨_, res1 rfl (rt (v := .bool _) rfl), ?_⟩
              first | (exfalso; omega) | exact ⟨by rw [show letterB n = true from decide_eq_true (by omega)], hM.low⟩ | exact ⟨by rw [show letterB n = decide ((n : Int) = 45) from decide_eq_decide.2 (by omega)], hM.low⟩
            · 
              have hg33d := of_decide_eq_true hg33
              refine gop_off rfl rfl rfl rfl hg33 rfl rfl ?_
              refine gop (y_pick_t (v := .bool _) rfl hg33 rfl) rfl rfl rfl ?_
              refine gop (y_assign (v := .bool _) rfl) rfl rfl rfl ?_
              refine gops_nil ?_
              refine hN2 _ _ ?_
              refine gfrom [(2, .bool _)] ⟨rfl, trivial⟩ fun σ => ?_
              refine gret fun w1 hM => ?_
              refine ⟨_, res1 rfl (rt (v := .bool _) rfl), ?_⟩
              first | (exfalso; omega) | exact ⟨by rw [show letterB n = true from decide_eq_true (by omega)], hM.low⟩ | exact ⟨by rw [show letterB n = decide ((n : Int) = 45) from decide_eq_decide.2 (by omega)], hM.low⟩
          · 
            have hg29d := of_decide_eq_true hg29
            refine gop_off rfl rfl rfl rfl hg29 rfl rfl ?_
            refine gop (y_pick_t (v := .bool _) rfl hg29 rfl) rfl rfl rfl ?_
            refine gop (y_move (v := .bool _) rfl) rfl rfl rfl ?_
            refine gop_off rfl rfl rfl rfl rfl rfl rfl ?_
            refine gop_off rfl rfl rfl rfl rfl rfl rfl ?_
            refine gop (y_pick_t (v := .bool _) rfl rfl rfl) rfl rfl rfl ?_
            refine gop (y_assign (v := .bool _) rfl) rfl rfl rfl ?_
            refine gops_nil ?_
            refine hN2 _ _ ?_
            refine gfrom [(2, .bool _)] ⟨rfl, trivial⟩ fun σ => ?_
            refine gret fun w1 hM => ?_
            refine ⟨_, res1 rfl (rt (v := .bool _) rfl), ?_⟩
            first | (exfalso; omega) | exact ⟨by rw [show letterB n = true from decide_eq_true (by omega)], hM.low⟩ | exact ⟨by rw [show letterB n = decide ((n : Int) = 45) from decide_eq_decide.2 (by omega)], hM.low⟩
      · 
        have hg17d := of_decide_eq_true hg17
        refine gop_off rfl rfl rfl rfl hg17 rfl rfl ?_
        refine gop_off rfl rfl rfl rfl hg17 rfl rfl ?_
        refine gop_offu rfl rfl rfl rfl rfl rfl ?_
        refine gop_offu rfl rfl rfl rfl rfl rfl ?_
        refine gop_off rfl rfl rfl rfl hg17 rfl rfl ?_
        refine gop (y_pick_t (v := .bool _) rfl hg17 rfl) rfl rfl rfl ?_
        refine gop (y_move (v := .bool _) rfl) rfl rfl rfl ?_
        refine gop_off rfl rfl rfl rfl rfl rfl rfl ?_
        refine gop_off rfl rfl rfl rfl rfl rfl rfl ?_
        refine gop (y_pick_t (v := .bool _) rfl rfl rfl) rfl rfl rfl ?_
        refine gop (y_move (v := .bool _) rfl) rfl rfl rfl ?_
        refine gop_off rfl rfl rfl rfl rfl rfl rfl ?_
        refine gop_off rfl rfl rfl rfl rfl rfl rfl ?_
        refine gop (y_pick_t (v := .bool _) rfl rfl rfl) rfl rfl rfl ?_
        refine gop (y_move (v := .bool _) rfl) rfl rfl rfl ?_
        refine gop_off rfl rfl rfl rfl rfl rfl rfl ?_
        refine gop_off rfl rfl rfl rfl rfl rfl rfl ?_
        refine gop (y_pick_t (v := .bool _) rfl rfl rfl) rfl rfl rfl ?_
        refine gop (y_assign (v := .bool _) rfl) rfl rfl rfl ?_
        refine gops_nil ?_
        refine hN2 _ _ ?_
        refine gfrom [(2, .bool _)] ⟨rfl, trivial⟩ fun σ => ?_
        refine gret fun w1 hM => ?_
        refine ⟨_, res1 rfl (rt (v := .bool _) rfl), ?_⟩
        first | (exfalso; omega) | exact ⟨by rw [show letterB n = true from decide_eq_true (by omega)], hM.low⟩ | exact ⟨by rw [show letterB n = decide ((n : Int) = 45) from decide_eq_decide.2 (by omega)], hM.low⟩
    · 
      have hg12d := of_decide_eq_false hg12
      refine gop_off rfl rfl rfl rfl hg12 rfl rfl ?_
      refine gop_on rfl rfl rfl rfl rfl ?_
      refine gop (y_bare (y_pick_f (v := .bool _) rfl hg12 rfl)) rfl rfl rfl ?_
      refine gop (y_pick_f (v := .bool _) rfl rfl rfl) rfl rfl rfl ?_
      refine gop (y_move (v := .bool _) rfl) rfl rfl rfl ?_
      refine gop_on rfl rfl rfl rfl rfl ?_
      refine gop (y_bare (y_move (v := .int _ _) rfl)) rfl rfl rfl ?_
      refine gop_on rfl rfl rfl rfl rfl ?_
      refine gop (y_bare (y_geq rfl rfl)) rfl rfl rfl ?_
      refine gop_on rfl rfl rfl rfl rfl ?_
      refine gop (y_bare (y_move (v := .bool _) rfl)) rfl rfl rfl ?_
      refine gop_if (want := true) rfl rfl rfl rfl rfl rfl (fun hg20 => ?_) (fun hg20 => ?_)
      · 
        have hg20d := of_decide_eq_true hg20
        refine gop (y_bare (y_move (v := .int _ _) rfl)) rfl rfl rfl ?_
        refine gop_on rfl rfl rfl rfl hg20 ?_
        refine gop (y_bare (y_leq rfl rfl)) rfl rfl rfl ?_
        refine gop_on rfl rfl rfl rfl rfl ?_
        refine gop (y_bare (y_pick_t (v := .bool _) rfl hg20 rfl)) rfl rfl rfl ?_
        refine gop (y_pick_f (v := .bool _) rfl rfl rfl) rfl rfl rfl ?_
        refine gop (y_move (v := .bool _) rfl) rfl rfl rfl ?_
        refine gop_if (want := false) rfl rfl rfl rfl rfl rfl (fun hg25 => ?_) (fun hg25 => ?_)
        · 
          have hg25d := of_decide_eq_false hg25
          refine gop (y_bare (y_move (v := .int _ _) rfl)) rfl rfl rfl ?_
          refine gop_on rfl rfl rfl rfl hg25 ?_
          refine gop (y_bare (y_eql rfl rfl)) rfl rfl rfl ?_
          refine gop (y_pick_f (v := .bool _) rfl hg25 rfl) rfl rfl rfl ?_
          refine gop (y_move (v := .bool _) rfl) rfl rfl rfl ?_
          refine gop_if (want := false) rfl rfl rfl rfl rfl rfl (fun hg29 => ?_) (fun hg29 => ?_)
          · 
            have hg29d := of_decide_eq_false hg29
            refine gop (y_bare (y_move (v := .int _ _) rfl)) rfl rfl rfl ?_
            refine gop_on rfl rfl rfl rfl hg29 ?_
            refine gop (y_bare (y_eql rfl rfl)) rfl rfl rfl ?_
            refine gop (y_pick_f (v := .bool _) rfl hg29 rfl) rfl rfl rfl ?_
            refine gop (y_move (v := .bool _) rfl) rfl rfl rfl ?_
            refine gop_if (want := false) rfl rfl rfl rfl rfl rfl (fun hg33 => ?_) (fun hg33 => ?_)
            · 
              have hg33d := of_decide_eq_false hg33
              refine gop (y_bare (y_move (v := .int _ _) rfl)) rfl rfl rfl ?_
              refine gop_on rfl rfl rfl rfl hg33 ?_
              refine gop (y_bare (y_eql rfl rfl)) rfl rfl rfl ?_
              refine gop (y_pick_f (v := .bool _) rfl hg33 rfl) rfl rfl rfl ?_
              refine gop (y_assign (v := .bool _) rfl) rfl rfl rfl ?_
              refine gops_nil ?_
              refine hN2 _ _ ?_
              refine gfrom [(2, .bool _)] ⟨rfl, trivial⟩ fun σ => ?_
              refine gret fun w1 hM => ?_
              refine ⟨_, res1 rfl (rt (v := .bool _) rfl), ?_⟩
              first | (exfalso; omega) | exact ⟨by rw [show letterB n = true from decide_eq_true (by omega)], hM.low⟩ | exact ⟨by rw [show letterB n = decide ((n : Int) = 45) from decide_eq_decide.2 (by omega)], hM.low⟩
            · 
              have hg33d := of_decide_eq_true hg33
              refine gop_off rfl rfl rfl rfl hg33 rfl rfl ?_
              refine gop (y_pick_t (v := .bool _) rfl hg33 rfl) rfl rfl rfl ?_
              refine gop (y_assign (v := .bool _) rfl) rfl rfl rfl ?_
              refine gops_nil ?_
              refine hN2 _ _ ?_
              refine gfrom [(2, .bool _)] ⟨rfl, trivial⟩ fun σ => ?_
              refine gret fun w1 hM => ?_
              refine ⟨_, res1 rfl (rt (v := .bool _) rfl), ?_⟩
              first | (exfalso; omega) | exact ⟨by rw [show letterB n = true from decide_eq_true (by omega)], hM.low⟩ | exact ⟨by rw [show letterB n = decide ((n : Int) = 45) from decide_eq_decide.2 (by omega)], hM.low⟩
          · 
            have hg29d := of_decide_eq_true hg29
            refine gop_off rfl rfl rfl rfl hg29 rfl rfl ?_
            refine gop (y_pick_t (v := .bool _) rfl hg29 rfl) rfl rfl rfl ?_
            refine gop (y_move (v := .bool _) rfl) rfl rfl rfl ?_
            refine gop_off rfl rfl rfl rfl rfl rfl rfl ?_
            refine gop_off rfl rfl rfl rfl rfl rfl rfl ?_
            refine gop (y_pick_t (v := .bool _) rfl rfl rfl) rfl rfl rfl ?_
            refine gop (y_assign (v := .bool _) rfl) rfl rfl rfl ?_
            refine gops_nil ?_
            refine hN2 _ _ ?_
            refine gfrom [(2, .bool _)] ⟨rfl, trivial⟩ fun σ => ?_
            refine gret fun w1 hM => ?_
            refine ⟨_, res1 rfl (rt (v := .bool _) rfl), ?_⟩
            first | (exfalso; omega) | exact ⟨by rw [show letterB n = true from decide_eq_true (by omega)], hM.low⟩ | exact ⟨by rw [show letterB n = decide ((n : Int) = 45) from decide_eq_decide.2 (by omega)], hM.low⟩
        · 
          have hg25d := of_decide_eq_true hg25
          refine gop_off rfl rfl rfl rfl hg25 rfl rfl ?_
          refine gop (y_pick_t (v := .bool _) rfl hg25 rfl) rfl rfl rfl ?_
          refine gop (y_move (v := .bool _) rfl) rfl rfl rfl ?_
          refine gop_off rfl rfl rfl rfl rfl rfl rfl ?_
          refine gop_off rfl rfl rfl rfl rfl rfl rfl ?_
          refine gop (y_pick_t (v := .bool _) rfl rfl rfl) rfl rfl rfl ?_
          refine gop (y_move (v := .bool _) rfl) rfl rfl rfl ?_
          refine gop_off rfl rfl rfl rfl rfl rfl rfl ?_
          refine gop_off rfl rfl rfl rfl rfl rfl rfl ?_
          refine gop (y_pick_t (v := .bool _) rfl rfl rfl) rfl rfl rfl ?_
          refine gop (y_assign (v := .bool _) rfl) rfl rfl rfl ?_
          refine gops_nil ?_
          refine hN2 _ _ ?_
          refine gfrom [(2, .bool _)] ⟨rfl, trivial⟩ fun σ => ?_
          refine gret fun w1 hM => ?_
          refine ⟨_, res1 rfl (rt (v := .bool _) rfl), ?_⟩
          first | (exfalso; omega) | exact ⟨by rw [show letterB n = true from decide_eq_true (by omega)], hM.low⟩ | exact ⟨by rw [show letterB n = decide ((n : Int) = 45) from decide_eq_decide.2 (by omega)], hM.low⟩
      · 
        have hg20d := of_decide_eq_false hg20
        refine gop_off rfl rfl rfl rfl hg20 rfl rfl ?_
        refine gop_on rfl rfl rfl rfl rfl ?_
        refine gop (y_bare (y_pick_f (v := .bool _) rfl hg20 rfl)) rfl rfl rfl ?_
        refine gop (y_pick_f (v := .bool _) rfl rfl rfl) rfl rfl rfl ?_
        refine gop (y_move (v := .bool _) rfl) rfl rfl rfl ?_
        refine gop_on rfl rfl rfl rfl rfl ?_
        refine gop (y_bare (y_move (v := .int _ _) rfl)) rfl rfl rfl ?_
        refine gop_on rfl rfl rfl rfl rfl ?_
        refine gop (y_bare (y_eql rfl rfl)) rfl rfl rfl ?_
        refine gop (y_pick_f (v := .bool _) rfl rfl rfl) rfl rfl rfl ?_
        refine gop (y_move (v := .bool _) rfl) rfl rfl rfl ?_
        refine gop_if (want := false) rfl rfl rfl rfl rfl rfl (fun hg29 => ?_) (fun hg29 => ?_)
        · 
          have hg29d := of_decide_eq_false hg29
          refine gop (y_bare (y_move (v := .int _ _) rfl)) rfl rfl rfl ?_
          refine gop_on rfl rfl rfl rfl hg29 ?_
          refine gop (y_bare (y_eql rfl rfl)) rfl rfl rfl ?_
          refine gop (y_pick_f (v := .bool _) rfl hg29 rfl) rfl rfl rfl ?_
          refine gop (y_move (v := .bool _) rfl) rfl rfl rfl ?_
          refine gop_if (want := false) rfl rfl rfl rfl rfl rfl (fun hg33 => ?_) (fun hg33 => ?_)
          · 
            have hg33d := of_decide_eq_false hg33
            refine gop (y_bare (y_move (v := .int _ _) rfl)) rfl rfl rfl ?_
            refine gop_on rfl rfl rfl rfl hg33 ?_
            refine gop (y_bare (y_eql rfl rfl)) rfl rfl rfl ?_
            refine gop (y_pick_f (v := .bool _) rfl hg33 rfl) rfl rfl rfl ?_
            refine gop (y_assign (v := .bool _) rfl) rfl rfl rfl ?_
            refine gops_nil ?_
            refine hN2 _ _ ?_
            refine gfrom [(2, .bool _)] ⟨rfl, trivial⟩ fun σ => ?_
            refine gret fun w1 hM => ?_
            refine ⟨_, res1 rfl (rt (v := .bool _) rfl), ?_⟩
            first | (exfalso; omega) | exact ⟨by rw [show letterB n = true from decide_eq_true (by omega)], hM.low⟩ | exact ⟨by rw [show letterB n = decide ((n : Int) = 45) from decide_eq_decide.2 (by omega)], hM.low⟩
          · 
            have hg33d := of_decide_eq_true hg33
            refine gop_off rfl rfl rfl rfl hg33 rfl rfl ?_
            refine gop (y_pick_t (v := .bool _) rfl hg33 rfl) rfl rfl rfl ?_
            refine gop (y_assign (v := .bool _) rfl) rfl rfl rfl ?_
            refine gops_nil ?_
            refine hN2 _ _ ?_
            refine gfrom [(2, .bool _)] ⟨rfl, trivial⟩ fun σ => ?_
            refine gret fun w1 hM => ?_
            refine ⟨_, res1 rfl (rt (v := .bool _) rfl), ?_⟩
            first | (exfalso; omega) | exact ⟨by rw [show letterB n = true from decide_eq_true (by omega)], hM.low⟩ | exact ⟨by rw [show letterB n = decide ((n : Int) = 45) from decide_eq_decide.2 (by omega)], hM.low⟩
        · 
          have hg29d := of_decide_eq_true hg29
          refine gop_off rfl rfl rfl rfl hg29 rfl rfl ?_
          refine gop (y_pick_t (v := .bool _) rfl hg29 rfl) rfl rfl rfl ?_
          refine gop (y_move (v := .bool _) rfl) rfl rfl rfl ?_
          refine gop_off rfl rfl rfl rfl rfl rfl rfl ?_
          refine gop_off rfl rfl rfl rfl rfl rfl rfl ?_
          refine gop (y_pick_t (v := .bool _) rfl rfl rfl) rfl rfl rfl ?_
          refine gop (y_assign (v := .bool _) rfl) rfl rfl rfl ?_
          refine gops_nil ?_
          refine hN2 _ _ ?_
          refine gfrom [(2, .bool _)] ⟨rfl, trivial⟩ fun σ => ?_
          refine gret fun w1 hM => ?_
          refine ⟨_, res1 rfl (rt (v := .bool _) rfl), ?_⟩
          first | (exfalso; omega) | exact ⟨by rw [show letterB n = true from decide_eq_true (by omega)], hM.low⟩ | exact ⟨by rw [show letterB n = decide ((n : Int) = 45) from decide_eq_decide.2 (by omega)], hM.low⟩
set_option maxHeartbeats 2000000 in
theorem isByte_any (w : World) (n : Nat) : Calls Tryd.prog 59 #[.int .u8 (n : Int)] w fun e w' => e = .returned (.bool (letterB n)) ∧ Below w.heap.size w w' := by
  refine gcalls Tryd.func59 rfl Tryd.ntmps59 (Nat.le_of_ble_eq_true rfl) ?_
  refine gfrom [(0, .int _ _)] ⟨rfl, trivial⟩ fun σ => ?_
  refine gseq fun N1 hN1 => ?_
  refine greg ?_
  refine gop (y_assign (v := .bool _) rfl) rfl rfl rfl ?_
  refine gops_nil ?_
  refine hN1 _ _ ?_
  refine gfrom [(0, .int _ _)] ⟨rfl, trivial⟩ fun σ => ?_
  refine gseq fun N2 hN2 => ?_
  refine greg ?_
  refine gop (y_move (v := .int _ _) rfl) rfl rfl rfl ?_
  refine gop (y_geq rfl rfl) rfl rfl rfl ?_
  refine gop (y_move (v := .bool _) rfl) rfl rfl rfl ?_
  refine gop_if (want := true) rfl rfl rfl rfl rfl rfl (fun hg5 => ?_) (fun hg5 => ?_)
  · 
    have hg5d := of_decide_eq_true hg5
    refine gop (y_bare (y_move (v := .int _ _) rfl)) rfl rfl rfl ?_
    refine gop_on rfl rfl rfl rfl hg5 ?_
    refine gop (y_bare (y_leq rfl rfl)) rfl rfl rfl ?_
    refine gop (y_pick_t (v := .bool _) rfl hg5 rfl) rfl rfl rfl ?_
    refine gop (y_move (v := .bool _) rfl) rfl rfl rfl ?_
    refine gop_if (want := false) rfl rfl rfl rfl rfl rfl (fun hg9 => ?_) (fun hg9 => ?_)
    · 
      have hg9d := of_decide_eq_false hg9
      refine gop (y_bare (y_move (v := .int _ _) rfl)) rfl rfl rfl ?_
      refine gop_on rfl rfl rfl rfl hg9 ?_
      refine gop (y_bare (y_geq rfl rfl)) rfl rfl rfl ?_
      refine gop_on rfl rfl rfl rfl hg9 ?_
      refine gop (y_bare (y_move (v := .bool _) rfl)) rfl rfl rfl ?_
      refine gop_if (want := true) rfl rfl rfl rfl rfl rfl (fun hg12 => ?_) (fun hg12 => ?_)
      · 
        have hg12d := of_decide_eq_true hg12
        refine gop (y_bare (y_move (v := .int _ _) rfl)) rfl rfl rfl ?_
        refine gop_on rfl rfl rfl rfl hg12 ?_
        refine gop (y_bare (y_leq rfl rfl)) rfl rfl rfl ?_
        refine gop_on rfl rfl rfl rfl hg9 ?_
        refine gop (y_bare (y_pick_t (v := .bool _) rfl hg12 rfl)) rfl rfl rfl ?_
        refine gop (y_pick_f (v := .bool _) rfl hg9 rfl) rfl rfl rfl ?_
        refine gop (y_move (v := .bool _) rfl) rfl rfl rfl ?_
        refine gop_if (want := false) rfl rfl rfl rfl rfl rfl (fun hg17 => ?_) (fun hg17 => ?_)
        · 
          have hg17d := of_decide_eq_false hg17
          refine gop (y_bare (y_move (v := .int _ _) rfl)) rfl rfl rfl ?_
          refine gop_on rfl rfl rfl rfl hg17 ?_
          refine gop (y_bare (y_geq rfl rfl)) rfl rfl rfl ?_
          refine gop_on rfl rfl rfl rfl hg17 ?_
          refine gop (y_bare (y_move (v := .bool _) rfl)) rfl rfl rfl ?_
          refine gop_if (want := true) rfl rfl rfl rfl rfl rfl (fun hg20 => ?_) (fun hg20 => ?_)
          · 
            have hg20d := of_decide_eq_true hg20
            refine gop (y_bare (y_move (v := .int _ _) rfl)) rfl rfl rfl ?_
            refine gop_on rfl rfl rfl rfl hg20 ?_
            refine gop (y_bare (y_leq rfl rfl)) rfl rfl rfl ?_
            refine gop_on rfl rfl rfl rfl hg17 ?_
            refine gop (y_bare (y_pick_t (v := .bool _) rfl hg20 rfl)) rfl rfl rfl ?_
            refine gop (y_pick_f (v := .bool _) rfl hg17 rfl) rfl rfl rfl ?_
            refine gop (y_move (v := .bool _) rfl) rfl rfl rfl ?_
            refine gop_if (want := false) rfl rfl rfl rfl rfl rfl (fun hg25 => ?_) (fun hg25 => ?_)
            · 
              have hg25d := of_decide_eq_false hg25
              refine gop (y_bare (y_move (v := .int _ _) rfl)) rfl rfl rfl ?_
              refine gop_on rfl rfl rfl rfl hg25 ?_
              refine gop (y_bare (y_eql rfl rfl)) rfl rfl rfl ?_
              refine gop (y_pick_f (v := .bool _) rfl hg25 rfl) rfl rfl rfl ?_
              refine gop (y_move (v := .bool _) rfl) rfl rfl rfl ?_
              refine gop_if (want := false) rfl rfl rfl rfl rfl rfl (fun hg29 => ?_) (fun hg29 => ?_)
              · 
                have hg29d := of_decide_eq_false hg29
                refine gop (y_bare (y_move (v := .int _ _) rfl)) rfl rfl rfl ?_
                refine gop_on rfl rfl rfl rfl hg29 ?_
                refine gop (y_bare (y_eql rfl rfl)) rfl rfl rfl ?_
                refine gop (y_pick_f (v := .bool _) rfl hg29 rfl) rfl rfl rfl ?_
                refine gop (y_move (v := .bool _) rfl) rfl rfl rfl ?_
                refine gop_if (want := false) rfl rfl rfl rfl rfl rfl (fun hg33 => ?_) (fun hg33 => ?_)
                · 
                  have hg33d := of_decide_eq_false hg33
                  refine gop (y_bare (y_move (v := .int _ _) rfl)) rfl rfl rfl ?_
                  refine gop_on rfl rfl rfl rfl hg33 ?_
                  refine gop (y_bare (y_eql rfl rfl)) rfl rfl rfl ?_
                  refine gop (y_pick_f (v := .bool _) rfl hg33 rfl) rfl rfl rfl ?_
                  refine gop (y_assign (v := .bool _) rfl) rfl rfl rfl ?_
                  refine gops_nil ?_
                  refine hN2 _ _ ?_
                  refine gfrom [(2, .bool _)] ⟨rfl, trivial⟩ fun σ => ?_
                  refine gret fun w1 hM => ?_
                  refine ⟨_, res1 rfl (rt (v := .bool _) rfl), ?_⟩
                  first | (exfalso; omega) | exact ⟨by rw [show letterB n = true from decide_eq_true (by omega)], hM.low⟩ | exact ⟨by rw [show letterB n = decide ((n : Int) = 45) from decide_eq_decide.2 (by omega)], hM.low⟩
                · 
                  have hg33d := of_decide_eq_true hg33
                  refine gop_off rfl rfl rfl rfl hg33 rfl rfl ?_
                  refine gop (y_pick_t (v := .bool _) rfl hg33 rfl) rfl rfl rfl ?_
                  refine gop (y_assign (v := .bool _) rfl) rfl rfl rfl ?_
                  refine gops_nil ?_
                  refine hN2 _ _ ?_
                  refine gfrom [(2, .bool _)] ⟨rfl, trivial⟩ fun σ => ?_
                  refine gret fun w1 hM => ?_
                  refine ⟨_, res1 rfl (rt (v := .bool _) rfl), ?_⟩
                  first | (exfalso; omega) | exact ⟨by rw [show letterB n = true from decide_eq_true (by omega)], hM.low⟩ | exact ⟨by rw [show letterB n = decide ((n : Int) = 45) from decide_eq_decide.2 (by omega)], hM.low⟩
              · 
                have hg29d := of_decide_eq_true hg29
                refine gop_off rfl rfl rfl rfl hg29 rfl rfl ?_
                refine gop (y_pick_t (v := .bool _) rfl hg29 rfl) rfl rfl rfl ?_
                refine gop (y_move (v := .bool _) rfl) rfl rfl rfl ?_
                refine gop_off rfl rfl rfl rfl rfl rfl rfl ?_
                refine gop_off rfl rfl rfl rfl rfl rfl rfl ?_
                refine gop (y_pick_t (v := .bool _) rfl rfl rfl) rfl rfl rfl ?_
                refine gop (y_assign (v := .bool _) rfl) rfl rfl rfl ?_
                refine gops_nil ?_
                refine hN2 _ _ ?_
                refine gfrom [(2, .bool _)] ⟨rfl, trivial⟩ fun σ => ?_
                refine gret fun w1 hM => ?_
                refine ⟨_, res1 rfl (rt (v := .bool _) rfl), ?_⟩
                first | (exfalso; omega) | exact ⟨by rw [show letterB n = true from decide_eq_true (by omega)], hM.low⟩ | exact ⟨by rw [show letterB n = decide ((n : Int) = 45) from decide_eq_decide.2 (by omega)], hM.low⟩
            · 
              have hg25d := of_decide_eq_true hg25
              refine gop_off rfl rfl rfl rfl hg25 rfl rfl ?_
              refine gop (y_pick_t (v := .bool _) rfl hg25 rfl) rfl rfl rfl ?_
              refine gop (y_move (v := .bool _) rfl) rfl rfl rfl ?_
              refine gop_off rfl rfl rfl rfl rfl rfl rfl ?_
              refine gop_off rfl rfl rfl rfl rfl rfl rfl ?_
              refine gop (y_pick_t (v := .bool _) rfl rfl rfl) rfl rfl rfl ?_
              refine gop (y_move (v := .bool _) rfl) rfl rfl rfl ?_
              refine gop_off rfl rfl rfl rfl rfl rfl rfl ?_
              refine gop_off rfl rfl rfl rfl rfl rfl rfl ?_
              refine gop (y_pick_t (v := .bool _) rfl rfl rfl) rfl rfl rfl ?_
              refine gop (y_assign (v := .bool _) rfl) rfl rfl rfl ?_
              refine gops_nil ?_
              refine hN2 _ _ ?_
              refine gfrom [(2, .bool _)] ⟨rfl, trivial⟩ fun σ => ?_
              refine gret fun w1 hM => ?_
              refine ⟨_, res1 rfl (rt (v := .bool _) rfl), ?_⟩
              first | (exfalso; omega) | exact ⟨by rw [show letterB n = true from decide_eq_true (by omega)], hM.low⟩ | exact ⟨by rw [show letterB n = decide ((n : Int) = 45) from decide_eq_decide.2 (by omega)], hM.low⟩
          · 
            have hg20d := of_decide_eq_false hg20
            refine gop_off rfl rfl rfl rfl hg20 rfl rfl ?_
            refine gop_on rfl rfl rfl rfl hg17 ?_
            refine gop (y_bare (y_pick_f (v := .bool _) rfl hg20 rfl)) rfl rfl rfl ?_
            refine gop (y_pick_f (v := .bool _) rfl hg17 rfl) rfl rfl rfl ?_
            refine gop (y_move (v := .bool _) rfl) rfl rfl rfl ?_
            refine gop_on rfl rfl rfl rfl rfl ?_
            refine gop (y_bare (y_move (v := .int _ _) rfl)) rfl rfl rfl ?_
            refine gop_on rfl rfl rfl rfl rfl ?_
            refine gop (y_bare (y_eql rfl rfl)) rfl rfl rfl ?_
            refine gop (y_pick_f (v := .bool _) rfl rfl rfl) rfl rfl rfl ?_
            refine gop (y_move (v := .bool _) rfl) rfl rfl rfl ?_
            refine gop_if (want := false) rfl rfl rfl rfl rfl rfl (fun hg29 => ?_) (fun hg29 => ?_)
            · 
              have hg29d := of_decide_eq_false hg29
              refine gop (y_bare (y_move (v := .int _ _) rfl)) rfl rfl rfl ?_
              refine gop_on rfl rfl rfl rfl hg29 ?_
              refine gop (y_bare (y_eql rfl rfl)) rfl rfl rfl ?_
              refine gop (y_pick_f (v := .bool _) rfl hg29 rfl) rfl rfl rfl ?_
              refine gop (y_move (v := .bool _) rfl) rfl rfl rfl ?_
              refine gop_if (want := false) rfl rfl rfl rfl rfl rfl (fun hg33 => ?_) (fun hg33 => ?_)
              · 
                have hg33d := of_decide_eq_false hg33
                refine gop (y_bare (y_move (v := .int _ _) rfl)) rfl rfl rfl ?_
                refine gop_on rfl rfl rfl rfl hg33 ?_
                refine gop (y_bare (y_eql rfl rfl)) rfl rfl rfl ?_
                refine gop (y_pick_f (v := .bool _) rfl hg33 rfl) rfl rfl rfl ?_
                refine gop (y_assign (v := .bool _) rfl) rfl rfl rfl ?_
                refine gops_nil ?_
                refine hN2 _ _ ?_
                refine gfrom [(2, .bool _)] ⟨rfl, trivial⟩ fun σ => ?_
                refine gret fun w1 hM => ?_
                refine ⟨_, res1 rfl (rt (v := .bool _) rfl), ?_⟩
                first | (exfalso; omega) | exact ⟨by rw [show letterB n = true from decide_eq_true (by omega)], hM.low⟩ | exact ⟨by rw [show letterB n = decide ((n : Int) = 45) from decide_eq_decide.2 (by omega)], hM.low⟩
              · 
                have hg33d := of_decide_eq_true hg33
                refine gop_off rfl rfl rfl rfl hg33 rfl rfl ?_
                refine gop (y_pick_t (v := .bool _) rfl hg33 rfl) rfl rfl rfl ?_
                refine gop (y_assign (v := .bool _) rfl) rfl rfl rfl ?_
                refine gops_nil ?_
                refine hN2 _ _ ?_
                refine gfrom [(2, .bool _)] ⟨rfl, trivial⟩ fun σ => ?_
                refine gret fun w1 hM => ?_
                refine ⟨_, res1 rfl (rt (v := .bool _) rfl), ?_⟩
                first | (exfalso; omega) | exact ⟨by rw [show letterB n = true from decide_eq_true (by omega)], hM.low⟩ | exact ⟨by rw [show letterB n = decide ((n : Int) = 45) from decide_eq_decide.2 (by omega)], hM.low⟩
            · 
              have hg29d := of_decide_eq_true hg29
              refine gop_off rfl rfl rfl rfl hg29 rfl rfl ?_
              refine gop (y_pick_t (v := .bool _) rfl hg29 rfl) rfl rfl rfl ?_
              refine gop (y_move (v := .bool _) rfl) rfl rfl rfl ?_
              refine gop_off rfl rfl rfl rfl rfl rfl rfl ?_
              refine gop_off rfl rfl rfl rfl rfl rfl rfl ?_
              refine gop (y_pick_t (v := .bool _) rfl rfl rfl) rfl rfl rfl ?_
              refine gop (y_assign (v := .bool _) rfl) rfl rfl rfl ?_
              refine gops_nil ?_
              refine hN2 _ _ ?_
              refine gfrom [(2, .bool _)] ⟨rfl, trivial⟩ fun σ => ?_
              refine gret fun w1 hM => ?_
              refine ⟨_, res1 rfl (rt (v := .bool _) rfl), ?_⟩
              first | (exfalso; omega) | exact ⟨by rw [show letterB n = true from decide_eq_true (by omega)], hM.low⟩ | exact ⟨by rw [show letterB n = decide ((n : Int) = 45) from decide_eq_decide.2 (by omega)], hM.low⟩
        · 
          have hg17d := of_decide_eq_true hg17
          refine gop_off rfl rfl rfl rfl hg17 rfl rfl ?_
          refine gop_off rfl rfl rfl rfl hg17 rfl rfl ?_
          refine gop_offu rfl rfl rfl rfl rfl rfl ?_
          refine gop_offu rfl rfl rfl rfl rfl rfl ?_
          refine gop_off rfl rfl rfl rfl hg17 rfl rfl ?_
          refine gop (y_pick_t (v := .bool _) rfl hg17 rfl) rfl rfl rfl ?_
          refine gop (y_move (v := .bool _) rfl) rfl rfl rfl ?_
          refine gop_off rfl rfl rfl rfl rfl rfl rfl ?_
          refine gop_off rfl rfl rfl rfl rfl rfl rfl ?_
          refine gop (y_pick_t (v := .bool _) rfl rfl rfl) rfl rfl rfl ?_
          refine gop (y_move (v := .bool _) rfl) rfl rfl rfl ?_
          refine gop_off rfl rfl rfl rfl rfl rfl rfl ?_
          refine gop_off rfl rfl rfl rfl rfl rfl rfl ?_
          refine gop (y_pick_t (v := .bool _) rfl rfl rfl) rfl rfl rfl ?_
          refine gop (y_move (v := .bool _) rfl) rfl rfl rfl ?_
          refine gop_off rfl rfl rfl rfl rfl rfl rfl ?_
          refine gop_off rfl rfl rfl rfl rfl rfl rfl ?_
          refine gop (y_pick_t (v := .bool _) rfl rfl rfl) rfl rfl rfl ?_
          refine gop (y_assign (v := .bool _) rfl) rfl rfl rfl ?_
          refine gops_nil ?_
          refine hN2 _ _ ?_
          refine gfrom [(2, .bool _)] ⟨rfl, trivial⟩ fun σ => ?_
          refine gret fun w1 hM => ?_
          refine ⟨_, res1 rfl (rt (v := .bool _) rfl), ?_⟩
          first | (exfalso; omega) | exact ⟨by rw [show letterB n = true from decide_eq_true (by omega)], hM.low⟩ | exact ⟨by rw [show letterB n = decide ((n : Int) = 45) from decide_eq_decide.2 (by omega)], hM.low⟩
      · 
        have hg12d := of_decide_eq_false hg12
        refine gop_off rfl rfl rfl rfl hg12 rfl rfl ?_
        refine gop_on rfl rfl rfl rfl hg9 ?_
        refine gop (y_bare (y_pick_f (v := .bool _) rfl hg12 rfl)) rfl rfl rfl ?_
        refine gop (y_pick_f (v := .bool _) rfl hg9 rfl) rfl rfl rfl ?_
        refine gop (y_move (v := .bool _) rfl) rfl rfl rfl ?_
        refine gop_on rfl rfl rfl rfl rfl ?_
        refine gop (y_bare (y_move (v := .int _ _) rfl)) rfl rfl rfl ?_
        refine gop_on rfl rfl rfl rfl rfl ?_
        refine gop (y_bare (y_geq rfl rfl)) rfl rfl rfl ?_
        refine gop_on rfl rfl rfl rfl rfl ?_
        refine gop (y_bare (y_move (v := .bool _) rfl)) rfl rfl rfl ?_
        refine gop_if (want := true) rfl rfl rfl rfl rfl rfl (fun hg20 => ?_) (fun hg20 => ?_)
        · 
          have hg20d := of_decide_eq_true hg20
          refine gop (y_bare (y_move (v := .int _ _) rfl)) rfl rfl rfl ?_
          refine gop_on rfl rfl rfl rfl hg20 ?_
          refine gop (y_bare (y_leq rfl rfl)) rfl rfl rfl ?_
          refine gop_on rfl rfl rfl rfl rfl ?_
          refine gop (y_bare (y_pick_t (v := .bool _) rfl hg20 rfl)) rfl rfl rfl ?_
          refine gop (y_pick_f (v := .bool _) rfl rfl rfl) rfl rfl rfl ?_
          refine gop (y_move (v := .bool _) rfl) rfl rfl rfl ?_
          refine gop_if (want := false) rfl rfl rfl rfl rfl rfl (fun hg25 => ?_) (fun hg25 => ?_)
          · 
            have hg25d := of_decide_eq_false hg25
            refine gop (y_bare (y_move (v := .int _ _) rfl)) rfl rfl rfl ?_
            refine gop_on rfl rfl rfl rfl hg25 ?_
            refine gop (y_bare (y_eql rfl rfl)) rfl rfl rfl ?_
            refine gop (y_pick_f (v := .bool _) rfl hg25 rfl) rfl rfl rfl ?_
            refine gop (y_move (v := .bool _) rfl) rfl rfl rfl ?_
            refine gop_if (want := false) rfl rfl rfl rfl rfl rfl (fun hg29 => ?_) (fun hg29 => ?_)
            · 
              have hg29d := of_decide_eq_false hg29
              refine gop (y_bare (y_move (v := .int _ _) rfl)) rfl rfl rfl ?_
              refine gop_on rfl rfl rfl rfl hg29 ?_
              refine gop (y_bare (y_eql rfl rfl)) rfl rfl rfl ?_
              refine gop (y_pick_f (v := .bool _) rfl hg29 rfl) rfl rfl rfl ?_
              refine gop (y_move (v := .bool _) rfl) rfl rfl rfl ?_
              refine gop_if (want := false) rfl rfl rfl rfl rfl rfl (fun hg33 => ?_) (fun hg33 => ?_)
              · 
                have hg33d := of_decide_eq_false hg33
                refine gop (y_bare (y_move (v := .int _ _) rfl)) rfl rfl rfl ?_
                refine gop_on rfl rfl rfl rfl hg33 ?_
                refine gop (y_bare (y_eql rfl rfl)) rfl rfl rfl ?_
                refine gop (y_pick_f (v := .bool _) rfl hg33 rfl) rfl rfl rfl ?_
                refine gop (y_assign (v := .bool _) rfl) rfl rfl rfl ?_
                refine gops_nil ?_
                refine hN2 _ _ ?_
                refine gfrom [(2, .bool _)] ⟨rfl, trivial⟩ fun σ => ?_
                refine gret fun w1 hM => ?_
                refine ⟨_, res1 rfl (rt (v := .bool _) rfl), ?_⟩
                first | (exfalso; omega) | exact ⟨by rw [show letterB n = true from decide_eq_true (by omega)], hM.low⟩ | exact ⟨by rw [show letterB n = decide ((n : Int) = 45) from decide_eq_decide.2 (by omega)], hM.low⟩
              · 
                have hg33d := of_decide_eq_true hg33
                refine gop_off rfl rfl rfl rfl hg33 rfl rfl ?_
                refine gop (y_pick_t (v := .bool _) rfl hg33 rfl) rfl rfl rfl ?_
                refine gop (y_assign (v := .bool _) rfl) rfl rfl rfl ?_
                refine gops_nil ?_
                refine hN2 _ _ ?_
                refine gfrom [(2, .bool _)] ⟨rfl, trivial⟩ fun σ => ?_
                refine gret fun w1 hM => ?_
                refine ⟨_, res1 rfl (rt (v := .bool _) rfl), ?_⟩
                first | (exfalso; omega) | exact ⟨by rw [show letterB n = true from decide_eq_true (by omega)], hM.low⟩ | exact ⟨by rw [show letterB n = decide ((n : Int) = 45) from decide_eq_decide.2 (by omega)], hM.low⟩
            · 
              have hg29d := of_decide_eq_true hg29
              refine gop_off rfl rfl rfl rfl hg29 rfl rfl ?_
              refine gop (y_pick_t (v := .bool _) rfl hg29 rfl) rfl rfl rfl ?_
              refine gop (y_move (v := .bool _) rfl) rfl rfl rfl ?_
              refine gop_off rfl rfl rfl rfl rfl rfl rfl ?_
              refine gop_off rfl rfl rfl rfl rfl rfl rfl ?_
              refine gop (y_pick_t (v := .bool _) rfl rfl rfl) rfl rfl rfl ?_
              refine gop (y_assign (v := .bool _) rfl) rfl rfl rfl ?_
              refine gops_nil ?_
              refine hN2 _ _ ?_
              refine gfrom [(2, .bool _)] ⟨rfl, trivial⟩ fun σ => ?_
              refine gret fun w1 hM => ?_
              refine ⟨_, res1 rfl (rt (v := .bool _) rfl), ?_⟩
              first | (exfalso; omega) | exact ⟨by rw [show letterB n = true from decide_eq_true (by omega)], hM.low⟩ | exact ⟨by rw [show letterB n = decide ((n : Int) = 45) from decide_eq_decide.2 (by omega)], hM.low⟩
          · 
            have hg25d := of_decide_eq_true hg25
            refine gop_off rfl rfl rfl rfl hg25 rfl rfl ?_
            refine gop (y_pick_t (v := .bool _) rfl hg25 rfl) rfl rfl rfl ?_
            refine gop (y_move (v := .bool _) rfl) rfl rfl rfl ?_
            refine gop_off rfl rfl rfl rfl rfl rfl rfl ?_
            refine gop_off rfl rfl rfl rfl rfl rfl rfl ?_
            refine gop (y_pick_t (v := .bool _) rfl rfl rfl) rfl rfl rfl ?_
            refine gop (y_move (v := .bool _) rfl) rfl rfl rfl ?_
            refine gop_off rfl rfl rfl rfl rfl rfl rfl ?_
            refine gop_off rfl rfl rfl rfl rfl rfl rfl ?_
            refine gop (y_pick_t (v := .bool _) rfl rfl rfl) rfl rfl rfl ?_
            refine gop (y_assign (v := .bool _) rfl) rfl rfl rfl ?_
            refine gops_nil ?_
            refine hN2 _ _ ?_
            refine gfrom [(2, .bool _)] ⟨rfl, trivial⟩ fun σ => ?_
            refine gret fun w1 hM => ?_
            refine ⟨_, res1 rfl (rt (v := .bool _) rfl), ?_⟩
            first | (exfalso; omega) | exact ⟨by rw [show letterB n = true from decide_eq_true (by omega)], hM.low⟩ | exact ⟨by rw [show letterB n = decide ((n : Int) = 45) from decide_eq_decide.2 (by omega)], hM.low⟩
        · 
          have hg20d := of_decide_eq_false hg20
          refine gop_off rfl rfl rfl rfl hg20 rfl rfl ?_
          refine gop_on rfl rfl rfl rfl rfl ?_
          refine gop (y_bare (y_pick_f (v := .bool _) rfl hg20 rfl)) rfl rfl rfl ?_
          refine gop (y_pick_f (v := .bool _) rfl rfl rfl) rfl rfl rfl ?_
          refine gop (y_move (v := .bool _) rfl) rfl rfl rfl ?_
          refine gop_on rfl rfl rfl rfl rfl ?_
          refine gop (y_bare (y_move (v := .int _ _) rfl)) rfl rfl rfl ?_
          refine gop_on rfl rfl rfl rfl rfl ?_
          refine gop (y_bare (y_eql rfl rfl)) rfl rfl rfl ?_
          refine gop (y_pick_f (v := .bool _) rfl rfl rfl) rfl rfl rfl ?_
          refine gop (y_move (v := .bool _) rfl) rfl rfl rfl ?_
          refine gop_if (want := false) rfl rfl rfl rfl rfl rfl (fun hg29 => ?_) (fun hg29 => ?_)
          · 
            have hg29d := of_decide_eq_false hg29
            refine gop (y_bare (y_move (v := .int _ _) rfl)) rfl rfl rfl ?_
            refine gop_on rfl rfl rfl rfl hg29 ?_
            refine gop (y_bare (y_eql rfl rfl)) rfl rfl rfl ?_
            refine gop (y_pick_f (v := .bool _) rfl hg29 rfl) rfl rfl rfl ?_
            refine gop (y_move (v := .bool _) rfl) rfl rfl rfl ?_
            refine gop_if (want := false) rfl rfl rfl rfl rfl rfl (fun hg33 => ?_) (fun hg33 => ?_)
            · 
              have hg33d := of_decide_eq_false hg33
              refine gop (y_bare (y_move (v := .int _ _) rfl)) rfl rfl rfl ?_
              refine gop_on rfl rfl rfl rfl hg33 ?_
              refine gop (y_bare (y_eql rfl rfl)) rfl rfl rfl ?_
              refine gop (y_pick_f (v := .bool _) rfl hg33 rfl) rfl rfl rfl ?_
              refine gop (y_assign (v := .bool _) rfl) rfl rfl rfl ?_
              refine gops_nil ?_
              refine hN2 _ _ ?_
              refine gfrom [(2, .bool _)] ⟨rfl, trivial⟩ fun σ => ?_
              refine gret fun w1 hM => ?_
              refine ⟨_, res1 rfl (rt (v := .bool _) rfl), ?_⟩
              first | (exfalso; omega) | exact ⟨by rw [show letterB n = true from decide_eq_true (by omega)], hM.low⟩ | exact ⟨by rw [show letterB n = decide ((n : Int) = 45) from decide_eq_decide.2 (by omega)], hM.low⟩
            · 
              have hg33d := of_decide_eq_true hg33
              refine gop_off rfl rfl rfl rfl hg33 rfl rfl ?_
              refine gop (y_pick_t (v := .bool _) rfl hg33 rfl) rfl rfl rfl ?_
              refine gop (y_assign (v := .bool _) rfl) rfl rfl rfl ?_
              refine gops_nil ?_
              refine hN2 _ _ ?_
              refine gfrom [(2, .bool _)] ⟨rfl, trivial⟩ fun σ => ?_
              refine gret fun w1 hM => ?_
              refine ⟨_, res1 rfl (rt (v := .bool _) rfl), ?_⟩
              first | (exfalso; omega) | exact ⟨by rw [show letterB n = true from decide_eq_true (by omega)], hM.low⟩ | exact ⟨by rw [show letterB n = decide ((n : Int) = 45) from decide_eq_decide.2 (by omega)], hM.low⟩
          · 
            have hg29d := of_decide_eq_true hg29
            refine gop_off rfl rfl rfl rfl hg29 rfl rfl ?_
            refine gop (y_pick_t (v := .bool _) rfl hg29 rfl) rfl rfl rfl ?_
            refine gop (y_move (v := .bool _) rfl) rfl rfl rfl ?_
            refine gop_off rfl rfl rfl rfl rfl rfl rfl ?_
            refine gop_off rfl rfl rfl rfl rfl rfl rfl ?_
            refine gop (y_pick_t (v := .bool _) rfl rfl rfl) rfl rfl rfl ?_
            refine gop (y_assign (v := .bool _) rfl) rfl rfl rfl ?_
            refine gops_nil ?_
            refine hN2 _ _ ?_
            refine gfrom [(2, .bool _)] ⟨rfl, trivial⟩ fun σ => ?_
            refine gret fun w1 hM => ?_
            refine ⟨_, res1 rfl (rt (v := .bool _) rfl), ?_⟩
            first | (exfalso; omega) | exact ⟨by rw [show letterB n = true from decide_eq_true (by omega)], hM.low⟩ | exact ⟨by rw [show letterB n = decide ((n : Int) = 45) from decide_eq_decide.2 (by omega)], hM.low⟩
    · 
      have hg9d := of_decide_eq_true hg9
      refine gop_off rfl rfl rfl rfl hg9 rfl rfl ?_
      refine gop_off rfl rfl rfl rfl hg9 rfl rfl ?_
      refine gop_offu rfl rfl rfl rfl rfl rfl ?_
      refine gop_offu rfl rfl rfl rfl rfl rfl ?_
      refine gop_off rfl rfl rfl rfl hg9 rfl rfl ?_
      refine gop (y_pick_t (v := .bool _) rfl hg9 rfl) rfl rfl rfl ?_
      refine gop (y_move (v := .bool _) rfl) rfl rfl rfl ?_
      refine gop_off rfl rfl rfl rfl rfl rfl rfl ?_
      refine gop_off rfl rfl rfl rfl rfl rfl rfl ?_
      refine gop_off rfl rfl rfl rfl rfl rfl rfl ?_
      refine gop_offu rfl rfl rfl rfl rfl rfl ?_
      refine gop_offu rfl rfl rfl rfl rfl rfl ?_
      refine gop_off rfl rfl rfl rfl rfl rfl rfl ?_
      refine gop (y_pick_t (v := .bool _) rfl rfl rfl) rfl rfl rfl ?_
      refine gop (y_move (v := .bool _) rfl) rfl rfl rfl ?_
      refine gop_off rfl rfl rfl rfl rfl rfl rfl ?_
      refine gop_off rfl rfl rfl rfl rfl rfl rfl ?_
      refine gop (y_pick_t (v := .bool _) rfl rfl rfl) rfl rfl rfl ?_
      refine gop (y_move (v := .bool _) rfl) rfl rfl rfl ?_
      refine gop_off rfl rfl rfl rfl rfl rfl rfl ?_
      refine gop_off rfl rfl rfl rfl rfl rfl rfl ?_
      refine gop (y_pick_t (v := .bool _) rfl rfl rfl) rfl rfl rfl ?_
      refine gop (y_move (v := .bool _) rfl) rfl rfl rfl ?_
      refine gop_off rfl rfl rfl rfl rfl rfl rfl ?_
      refine gop_off rfl rfl rfl rfl rfl rfl rfl ?_
      refine gop (y_pick_t (v := .bool _) rfl rfl rfl) rfl rfl rfl ?_
      refine gop (y_assign (v := .bool _) rfl) rfl rfl rfl ?_
      refine gops_nil ?_
      refine hN2 _ _ ?_
      refine gfrom [(2, .bool _)] ⟨rfl, trivial⟩ fun σ => ?_
      refine gret fun w1 hM => ?_
      refine ⟨_, res1 rfl (rt (v := .bool _) rfl), ?_⟩
      first | (exfalso; omega) | exact ⟨by rw [show letterB n = true from decide_eq_true (by omega)], hM.low⟩ | exact ⟨by rw [show letterB n = decide ((n : Int) = 45) from decide_eq_decide.2 (by omega)], hM.low⟩
  · 
    have hg5d := of_decide_eq_false hg5
    refine gop_off rfl rfl rfl rfl hg5 rfl rfl ?_
    refine gop (y_pick_f (v := .bool _) rfl hg5 rfl) rfl rfl rfl ?_
    refine gop (y_move (v := .bool _) rfl) rfl rfl rfl ?_
    refine gop_on rfl rfl rfl rfl rfl ?_
    refine gop (y_bare (y_move (v := .int _ _) rfl)) rfl rfl rfl ?_
    refine gop_on rfl rfl rfl rfl rfl ?_
    refine gop (y_bare (y_geq rfl rfl)) rfl rfl rfl ?_
    refine gop_on rfl rfl rfl rfl rfl ?_
    refine gop (y_bare (y_move (v := .bool _) rfl)) rfl rfl rfl ?_
    refine gop_if (want := true) rfl rfl rfl rfl rfl rfl (fun hg12 => ?_) (fun hg12 => ?_)
    · 
      have hg12d := of_decide_eq_true hg12
      refine gop (y_bare (y_move (v := .int _ _) rfl)) rfl rfl rfl ?_
      refine gop_on rfl rfl rfl rfl hg12 ?_
      refine gop (y_bare (y_leq rfl rfl)) rfl rfl rfl ?_
      refine gop_on rfl rfl rfl rfl rfl ?_
      refine gop (y_bare (y_pick_t (v := .bool _) rfl hg12 rfl)) rfl rfl rfl ?_
      refine gop (y_pick_f (v := .bool _) rfl rfl rfl) rfl rfl rfl ?_
      refine gop (y_move (v := .bool _) rfl) rfl rfl rfl ?_
      refine gop_if (want := false) rfl rfl rfl rfl rfl rfl (fun hg17 => ?_) (fun hg17 => ?_)
      · 
        have hg17d := of_decide_eq_false hg17
        refine gop (y_bare (y_move (v := .int _ _) rfl)) rfl rfl rfl ?_
        refine gop_on rfl rfl rfl rfl hg17 ?_
        refine gop (y_bare (y_geq rfl rfl)) rfl rfl rfl ?_
        refine gop_on rfl rfl rfl rfl hg17 ?_
        refine gop (y_bare (y_move (v := .bool _) rfl)) rfl rfl rfl ?_
        refine gop_if (want := true) rfl rfl rfl rfl rfl rfl (fun hg20 => ?_) (fun hg20 => ?_)
        · 
          have hg20d := of_decide_eq_true hg20
          refine gop (y_bare (y_move (v := .int _ _) rfl)) rfl rfl rfl ?_
          refine gop_on rfl rfl rfl rfl hg20 ?_
          refine gop (y_bare (y_leq rfl rfl)) rfl rfl rfl ?_
          refine gop_on rfl rfl rfl rfl hg17 ?_
          refine gop (y_bare (y_pick_t (v := .bool _) rfl hg20 rfl)) rfl rfl rfl ?_
          refine gop (y_pick_f (v := .bool _) rfl hg17 rfl) rfl rfl rfl ?_
          refine gop (y_move (v := .bool _) rfl) rfl rfl rfl ?_
          refine gop_if (want := false) rfl rfl rfl rfl rfl rfl (fun hg25 => ?_) (fun hg25 => ?_)
          · 
            have hg25d := of_decide_eq_false hg25
            refine gop (y_bare (y_move (v := .int _ _) rfl)) rfl rfl rfl ?_
            refine gop_on rfl rfl rfl rfl hg25 ?_
            refine gop (y_bare (y_eql rfl rfl)) rfl rfl rfl ?_
            refine gop (y_pick_f (v := .bool _) rfl hg25 rfl) rfl rfl rfl ?_
            refine gop (y_move (v := .bool _) rfl) rfl rfl rfl ?_
            refine gop_if (want := false) rfl rfl rfl rfl rfl rfl (fun hg29 => ?_) (fun hg29 => ?_)
            · 
              have hg29d := of_decide_eq_false hg29
              refine gop (y_bare (y_move (v := .int _ _) rfl)) rfl rfl rfl ?_
              refine gop_on rfl rfl rfl rfl hg29 ?_
              refine gop (y_bare (y_eql rfl rfl)) rfl rfl rfl ?_
              refine gop (y_pick_f (v := .bool _) rfl hg29 rfl) rfl rfl rfl ?_
              refine gop (y_move (v := .bool _) rfl) rfl rfl rfl ?_
              refine gop_if (want := false) rfl rfl rfl rfl rfl rfl (fun hg33 => ?_) (fun hg33 => ?_)
              · 
                have hg33d := of_decide_eq_false hg33
                refine gop (y_bare (y_move (v := .int _ _) rfl)) rfl rfl rfl ?_
                refine gop_on rfl rfl rfl rfl hg33 ?_
                refine gop (y_bare (y_eql rfl rfl)) rfl rfl rfl ?_
                refine gop (y_pick_f (v := .bool _) rfl hg33 rfl) rfl rfl rfl ?_
                refine gop (y_assign (v := .bool _) rfl) rfl rfl rfl ?_
                refine gops_nil ?_
                refine hN2 _ _ ?_
                refine gfrom [(2, .bool _)] ⟨rfl, trivial⟩ fun σ => ?_
                refine gret fun w1 hM => ?_
                refine ⟨_, res1 rfl (rt (v := .bool _) rfl), ?_⟩
                first | (exfalso; omega) | exact ⟨by rw [show letterB n = true from decide_eq_true (by omega)], hM.low⟩ | exact ⟨by rw [show letterB n = decide ((n : Int) = 45) from decide_eq_decide.2 (by omega)], hM.low⟩
              · 
                have hg33d := of_decide_eq_true hg33
                refine gop_off rfl rfl rfl rfl hg33 rfl rfl ?_
                refine gop (y_pick_t (v := .bool _) rfl hg33 rfl) rfl rfl rfl ?_
                refine gop (y_assign (v := .bool _) rfl) rfl rfl rfl ?_
                refine gops_nil ?_
                refine hN2 _ _ ?_
                refine gfrom [(2, .bool _)] ⟨rfl, trivial⟩ fun σ => ?_
                refine gret fun w1 hM => ?_
                refine ⟨_, res1 rfl (rt (v := .bool _) rfl), ?_⟩
                first | (exfalso; omega) | exact ⟨by rw [show letterB n = true from decide_eq_true (by omega)], hM.low⟩ | exact ⟨by rw [show letterB n = decide ((n : Int) = 45) from decide_eq_decide.2 (by omega)], hM.low⟩
            · 
              have hg29d := of_decide_eq_true hg29
              refine gop_off rfl rfl rfl rfl hg29 rfl rfl ?_
              refine gop (y_pick_t (v := .bool _) rfl hg29 rfl) rfl rfl rfl ?_
              refine gop (y_move (v := .bool _) rfl) rfl rfl rfl ?_
              refine gop_off rfl rfl rfl rfl rfl rfl rfl ?_
              refine gop_off rfl rfl rfl rfl rfl rfl rfl ?_
              refine gop (y_pick_t (v := .bool _) rfl rfl rfl) rfl rfl rfl ?_
              refine gop (y_assign (v := .bool _) rfl) rfl rfl rfl ?_
              refine gops_nil ?_
              refine hN2 _ _ ?_
              refine gfrom [(2, .bool _)] ⟨rfl, trivial⟩ fun σ => ?_
              refine gret fun w1 hM => ?_
              refine ⟨_, res1 rfl (rt (v := .bool _) rfl), ?_⟩
              first | (exfalso; omega) | exact ⟨by rw [show letterB n = true from decide_eq_true (by omega)], hM.low⟩ | exact ⟨by rw [show letterB n = decide ((n : Int) = 45) from decide_eq_decide.2 (by omega)], hM.low⟩
          · 
            have hg25d := of_decide_eq_true hg25
            refine gop_off rfl rfl rfl rfl hg25 rfl rfl ?_
            refine gop (y_pick_t (v := .bool _) rfl hg25 rfl) rfl rfl rfl ?_
            refine gop (y_move (v := .bool _) rfl) rfl rfl rfl ?_
            refine gop_off rfl rfl rfl rfl rfl rfl rfl ?_
            refine gop_off rfl rfl rfl rfl rfl rfl rfl ?_
            refine gop (y_pick_t (v := .bool _) rfl rfl rfl) rfl rfl rfl ?_
            refine gop (y_move (v := .bool _) rfl) rfl rfl rfl ?_
            refine gop_off rfl rfl rfl rfl rfl rfl rfl ?_
            refine gop_off rfl rfl rfl rfl rfl rfl rfl ?_
            refine gop (y_pick_t (v := .bool _) rfl rfl rfl) rfl rfl rfl ?_
            refine gop (y_assign (v := .bool _) rfl) rfl rfl rfl ?_
            refine gops_nil ?_
            refine hN2 _ _ ?_
            refine gfrom [(2, .bool _)] ⟨rfl, trivial⟩ fun σ => ?_
            refine gret fun w1 hM => ?_
            refine ⟨_, res1 rfl (rt (v := .bool _) rfl), ?_⟩
            first | (exfalso; omega) | exact ⟨by rw [show letterB n = true from decide_eq_true (by omega)], hM.low⟩ | exact ⟨by rw [show letterB n = decide ((n : Int) = 45) from decide_eq_decide.2 (by omega)], hM.low⟩
        · 
          have hg20d := of_decide_eq_false hg20
          refine gop_off rfl rfl rfl rfl hg20 rfl rfl ?_
          refine gop_on rfl rfl rfl rfl hg17 ?_
          refine gop (y_bare (y_pick_f (v := .bool _) rfl hg20 rfl)) rfl rfl rfl ?_
          refine gop (y_pick_f (v := .bool _) rfl hg17 rfl) rfl rfl rfl ?_
          refine gop (y_move (v := .bool _) rfl) rfl rfl rfl ?_
          refine gop_on rfl rfl rfl rfl rfl ?_
          refine gop (y_bare (y_move (v := .int _ _) rfl)) rfl rfl rfl ?_
          refine gop_on rfl rfl rfl rfl rfl ?_
          refine gop (y_bare (y_eql rfl rfl)) rfl rfl rfl ?_
          refine gop (y_pick_f (v := .bool _) rfl rfl rfl) rfl rfl rfl ?_
          refine gop (y_move (v := .bool _) rfl) rfl rfl rfl ?_
          refine gop_if (want := false) rfl rfl rfl rfl rfl rfl (fun hg29 => ?_) (fun hg29 => ?_)
          · 
            have hg29d := of_decide_eq_false hg29
            refine gop (y_bare (y_move (v := .int _ _) rfl)) rfl rfl rfl ?_
            refine gop_on rfl rfl rfl rfl hg29 ?_
            refine gop (y_bare (y_eql rfl rfl)) rfl rfl rfl ?_
            refine gop (y_pick_f (v := .bool _) rfl hg29 rfl) rfl rfl rfl ?_
            refine gop (y_move (v := .bool _) rfl) rfl rfl rfl ?_
            refine gop_if (want := false) rfl rfl rfl rfl rfl rfl (fun hg33 => ?_) (fun hg33 => ?_)
            · 
              have hg33d := of_decide_eq_false hg33
              refine gop (y_bare (y_move (v := .int _ _) rfl)) rfl rfl rfl ?_
              refine gop_on rfl rfl rfl rfl hg33 ?_
              refine gop (y_bare (y_eql rfl rfl)) rfl rfl rfl ?_
              refine gop (y_pick_f (v := .bool _) rfl hg33 rfl) rfl rfl rfl ?_
              refine gop (y_assign (v := .bool _) rfl) rfl rfl rfl ?_
              refine gops_nil ?_
              refine hN2 _ _ ?_
              refine gfrom [(2, .bool _)] ⟨rfl, trivial⟩ fun σ => ?_
              refine gret fun w1 hM => ?_
              refine ⟨_, res1 rfl (rt (v := .bool _) rfl), ?_⟩
              first | (exfalso; omega) | exact ⟨by rw [show letterB n = true from decide_eq_true (by omega)], hM.low⟩ | exact ⟨by rw [show letterB n = decide ((n : Int) = 45) from decide_eq_decide.2 (by omega)], hM.low⟩
            · 
              have hg33d := of_decide_eq_true hg33
              refine gop_off rfl rfl rfl rfl hg33 rfl rfl ?_
              refine gop (y_pick_t (v := .bool _) rfl hg33 rfl) rfl rfl rfl ?_
              refine gop (y_assign (v := .bool _) rfl) rfl rfl rfl ?_
              refine gops_nil ?_
              refine hN2 _ _ ?_
              refine gfrom [(2, .bool _)] ⟨rfl, trivial⟩ fun σ => ?_
              refine gret fun w1 hM => ?_
              refine ⟨_, res1 rfl (rt (v := .bool _) rfl), ?_⟩
              first | (exfalso; omega) | exact ⟨by rw [show letterB n = true from decide_eq_true (by omega)], hM.low⟩ | exact ⟨by rw [show letterB n = decide ((n : Int) = 45) from decide_eq_decide.2 (by omega)], hM.low⟩
          · 
            have hg29d := of_decide_eq_true hg29
            refine gop_off rfl rfl rfl rfl hg29 rfl rfl ?_
            refine gop (y_pick_t (v := .bool _) rfl hg29 rfl) rfl rfl rfl ?_
            refine gop (y_move (v := .bool _) rfl) rfl rfl rfl ?_
            refine gop_off rfl rfl rfl rfl rfl rfl rfl ?_
            refine gop_off rfl rfl rfl rfl rfl rfl rfl ?_
            refine gop (y_pick_t (v := .bool _) rfl rfl rfl) rfl rfl rfl ?_
            refine gop (y_assign (v := .bool _) rfl) rfl rfl rfl ?_
            refine gops_nil ?_
            refine hN2 _ _ ?_
            refine gfrom [(2, .bool _)] ⟨rfl, trivial⟩ fun σ => ?_
            refine gret fun w1 hM => ?_
            refine ⟨_, res1 rfl (rt (v := .bool _) rfl), ?_⟩
            first | (exfalso; omega) | exact ⟨by rw [show letterB n = true from decide_eq_true (by omega)], hM.low⟩ | exact ⟨by rw [show letterB n = decide ((n : Int) = 45) from decide_eq_decide.2 (by omega)], hM.low⟩
      · 
        have hg17d := of_decide_eq_true hg17
        refine gop_off rfl rfl rfl rfl hg17 rfl rfl ?_
        refine gop_off rfl rfl rfl rfl hg17 rfl rfl ?_
        refine gop_offu rfl rfl rfl rfl rfl rfl ?_
        refine gop_offu rfl rfl rfl rfl rfl rfl ?_
        refine gop_off rfl rfl rfl rfl hg17 rfl rfl ?_
        refine gop (y_pick_t (v := .bool _) rfl hg17 rfl) rfl rfl rfl ?_
        refine gop (y_move (v := .bool _) rfl) rfl rfl rfl ?_
        refine gop_off rfl rfl rfl rfl rfl rfl rfl ?_
        refine gop_off rfl rfl rfl rfl rfl rfl rfl ?_
        refine gop (y_pick_t (v := .bool _) rfl rfl rfl) rfl rfl rfl ?_
        refine gop (y_move (v := .bool _) rfl) rfl rfl rfl ?_
        refine gop_off rfl rfl rfl rfl rfl rfl rfl ?_
        refine gop_off rfl rfl rfl rfl rfl rfl rfl ?_
        refine gop (y_pick_t (v := .bool _) rfl rfl rfl) rfl rfl rfl ?_
        refine gop (y_move (v := .bool _) rfl) rfl rfl rfl ?_
        refine gop_off rfl rfl rfl rfl rfl rfl rfl ?_
        refine gop_off rfl rfl rfl rfl rfl rfl rfl ?_
        refine gop (y_pick_t (v := .bool _) rfl rfl rfl) rfl rfl rfl ?_
        refine gop (y_assign (v := .bool _) rfl) rfl rfl rfl ?_
        refine gops_nil ?_
        refine hN2 _ _ ?_
        refine gfrom [(2, .bool _)] ⟨rfl, trivial⟩ fun σ => ?_
        refine gret fun w1 hM => ?_
        refine ⟨_, res1 rfl (rt (v := .bool _) rfl), ?_⟩
        first | (exfalso; omega) | exact ⟨by rw [show letterB n = true from decide_eq_true (by omega)], hM.low⟩ | exact ⟨by rw [show letterB n = decide ((n : Int) = 45) from decide_eq_decide.2 (by omega)], hM.low⟩
    · 
      have hg12d := of_decide_eq_false hg12
      refine gop_off rfl rfl rfl rfl hg12 rfl rfl ?_
      refine gop_on rfl rfl rfl rfl rfl ?_
      refine gop (y_bare (y_pick_f (v := .bool _) rfl hg12 rfl)) rfl rfl rfl ?_
      refine gop (y_pick_f (v := .bool _) rfl rfl rfl) rfl rfl rfl ?_
      refine gop (y_move (v := .bool _) rfl) rfl rfl rfl ?_
      refine gop_on rfl rfl rfl rfl rfl ?_
      refine gop (y_bare (y_move (v := .int _ _) rfl)) rfl rfl rfl ?_
      refine gop_on rfl rfl rfl rfl rfl ?_
      refine gop (y_bare (y_geq rfl rfl)) rfl rfl rfl ?_
      refine gop_on rfl rfl rfl rfl rfl ?_
      refine gop (y_bare (y_move (v := .bool _) rfl)) rfl rfl rfl ?_
      refine gop_if (want := true) rfl rfl rfl rfl rfl rfl (fun hg20 => ?_) (fun hg20 => ?_)
      · 
        have hg20d := of_decide_eq_true hg20
        refine gop (y_bare (y_move (v := .int _ _) rfl)) rfl rfl rfl ?_
        refine gop_on rfl rfl rfl rfl hg20 ?_
        refine gop (y_bare (y_leq rfl rfl)) rfl rfl rfl ?_
        refine gop_on rfl rfl rfl rfl rfl ?_
        refine gop (y_bare (y_pick_t (v := .bool _) rfl hg20 rfl)) rfl rfl rfl ?_
        refine gop (y_pick_f (v := .bool _) rfl rfl rfl) rfl rfl rfl ?_
        refine gop (y_move (v := .bool _) rfl) rfl rfl rfl ?_
        refine gop_if (want := false) rfl rfl rfl rfl rfl rfl (fun hg25 => ?_) (fun hg25 => ?_)
        · 
          have hg25d := of_decide_eq_false hg25
          refine gop (y_bare (y_move (v := .int _ _) rfl)) rfl rfl rfl ?_
          refine gop_on rfl rfl rfl rfl hg25 ?_
          refine gop (y_bare (y_eql rfl rfl)) rfl rfl rfl ?_
          refine gop (y_pick_f (v := .bool _) rfl hg25 rfl) rfl rfl rfl ?_
          refine gop (y_move (v := .bool _) rfl) rfl rfl rfl ?_
          refine gop_if (want := false) rfl rfl rfl rfl rfl rfl (fun hg29 => ?_) (fun hg29 => ?_)
          · 
            have hg29d := of_decide_eq_false hg29
            refine gop (y_bare (y_move (v := .int _ _) rfl)) rfl rfl rfl ?_
            refine gop_on rfl rfl rfl rfl hg29 ?_
            refine gop (y_bare (y_eql rfl rfl)) rfl rfl rfl ?_
            refine gop (y_pick_f (v := .bool _) rfl hg29 rfl) rfl rfl rfl ?_
            refine gop (y_move (v := .bool _) rfl) rfl rfl rfl ?_
            refine gop_if (want := false) rfl rfl rfl rfl rfl rfl (fun hg33 => ?_) (fun hg33 => ?_)
            · 
              have hg33d := of_decide_eq_false hg33
              refine gop (y_bare (y_move (v := .int _ _) rfl)) rfl rfl rfl ?_
              refine gop_on rfl rfl rfl rfl hg33 ?_
              refine gop (y_bare (y_eql rfl rfl)) rfl rfl rfl ?_
              refine gop (y_pick_f (v := .bool _) rfl hg33 rfl) rfl rfl rfl ?_
              refine gop (y_assign (v := .bool _) rfl) rfl rfl rfl ?_
              refine gops_nil ?_
              refine hN2 _ _ ?_
              refine gfrom [(2, .bool _)] ⟨rfl, trivial⟩ fun σ => ?_
              refine gret fun w1 hM => ?_
              refine ⟨_, res1 rfl (rt (v := .bool _) rfl), ?_⟩
              first | (exfalso; omega) | exact ⟨by rw [show letterB n = true from decide_eq_true (by omega)], hM.low⟩ | exact ⟨by rw [show letterB n = decide ((n : Int) = 45) from decide_eq_decide.2 (by omega)], hM.low⟩
            · 
              have hg33d := of_decide_eq_true hg33
              refine gop_off rfl rfl rfl rfl hg33 rfl rfl ?_
              refine gop (y_pick_t (v := .bool _) rfl hg33 rfl) rfl rfl rfl ?_
              refine gop (y_assign (v := .bool _) rfl) rfl rfl rfl ?_
              refine gops_nil ?_
              refine hN2 _ _ ?_
              refine gfrom [(2, .bool _)] ⟨rfl, trivial⟩ fun σ => ?_
              refine gret fun w1 hM => ?_
              refine ⟨_, res1 rfl (rt (v := .bool _) rfl), ?_⟩
              first | (exfalso; omega) | exact ⟨by rw [show letterB n = true from decide_eq_true (by omega)], hM.low⟩ | exact ⟨by rw [show letterB n = decide ((n : Int) = 45) from decide_eq_decide.2 (by omega)], hM.low⟩
          · 
            have hg29d := of_decide_eq_true hg29
            refine gop_off rfl rfl rfl rfl hg29 rfl rfl ?_
            refine gop (y_pick_t (v := .bool _) rfl hg29 rfl) rfl rfl rfl ?_
            refine gop (y_move (v := .bool _) rfl) rfl rfl rfl ?_
            refine gop_off rfl rfl rfl rfl rfl rfl rfl ?_
            refine gop_off rfl rfl rfl rfl rfl rfl rfl ?_
            refine gop (y_pick_t (v := .bool _) rfl rfl rfl) rfl rfl rfl ?_
            refine gop (y_assign (v := .bool _) rfl) rfl rfl rfl ?_
            refine gops_nil ?_
            refine hN2 _ _ ?_
            refine gfrom [(2, .bool _)] ⟨rfl, trivial⟩ fun σ => ?_
            refine gret fun w1 hM => ?_
            refine ⟨_, res1 rfl (rt (v := .bool _) rfl), ?_⟩
            first | (exfalso; omega) | exact ⟨by rw [show letterB n = true from decide_eq_true (by omega)], hM.low⟩ | exact ⟨by rw [show letterB n = decide ((n : Int) = 45) from decide_eq_decide.2 (by omega)], hM.low⟩
        · 
          have hg25d := of_decide_eq_true hg25
          refine gop_off rfl rfl rfl rfl hg25 rfl rfl ?_
          refine gop (y_pick_t (v := .bool _) rfl hg25 rfl) rfl rfl rfl ?_
          refine gop (y_move (v := .bool _) rfl) rfl rfl rfl ?_
          refine gop_off rfl rfl rfl rfl rfl rfl rfl ?_
          refine gop_off rfl rfl rfl rfl rfl rfl rfl ?_
          refine gop (y_pick_t (v := .bool _) rfl rfl rfl) rfl rfl rfl ?_
          refine gop (y_move (v := .bool _) rfl) rfl rfl rfl ?_
          refine gop_off rfl rfl rfl rfl rfl rfl rfl ?_
          refine gop_off rfl rfl rfl rfl rfl rfl rfl ?_
          refine gop (y_pick_t (v := .bool _) rfl rfl rfl) rfl rfl rfl ?_
          refine gop (y_assign (v := .bool _) rfl) rfl rfl rfl ?_
          refine gops_nil ?_
          refine hN2 _ _ ?_
          refine gfrom [(2, .bool _)] ⟨rfl, trivial⟩ fun σ => ?_
          refine gret fun w1 hM => ?_
          refine ⟨_, res1 rfl (rt (v := .bool _) rfl), ?_⟩
          first | (exfalso; omega) | exact ⟨by rw [show letterB n = true from decide_eq_true (by omega)], hM.low⟩ | exact ⟨by rw [show letterB n = decide ((n : Int) = 45) from decide_eq_decide.2 (by omega)], hM.low⟩
      · 
        have hg20d := of_decide_eq_false hg20
        refine gop_off rfl rfl rfl rfl hg20 rfl rfl ?_
        refine gop_on rfl rfl rfl rfl rfl ?_
        refine gop (y_bare (y_pick_f (v := .bool _) rfl hg20 rfl)) rfl rfl rfl ?_
        refine gop (y_pick_f (v := .bool _) rfl rfl rfl) rfl rfl rfl ?_
        refine gop (y_move (v := .bool _) rfl) rfl rfl rfl ?_
        refine gop_on rfl rfl rfl rfl rfl ?_
        refine gop (y_bare (y_move (v := .int _ _) rfl)) rfl rfl rfl ?_
        refine gop_on rfl rfl rfl rfl rfl ?_
        refine gop (y_bare (y_eql rfl rfl)) rfl rfl rfl ?_
        refine gop (y_pick_f (v := .bool _) rfl rfl rfl) rfl rfl rfl ?_
        refine gop (y_move (v := .bool _) rfl) rfl rfl rfl ?_
        refine gop_if (want := false) rfl rfl rfl rfl rfl rfl (fun hg29 => ?_) (fun hg29 => ?_)
        · 
          have hg29d := of_decide_eq_false hg29
          refine gop (y_bare (y_move (v := .int _ _) rfl)) rfl rfl rfl ?_
          refine gop_on rfl rfl rfl rfl hg29 ?_
          refine gop (y_bare (y_eql rfl rfl)) rfl rfl rfl ?_
          refine gop (y_pick_f (v := .bool _) rfl hg29 rfl) rfl rfl rfl ?_
          refine gop (y_move (v := .bool _) rfl) rfl rfl rfl ?_
          refine gop_if (want := false) rfl rfl rfl rfl rfl rfl (fun hg33 => ?_) (fun hg33 => ?_)
          · 
            have hg33d := of_decide_eq_false hg33
            refine gop (y_bare (y_move (v := .int _ _) rfl)) rfl rfl rfl ?_
            refine gop_on rfl rfl rfl rfl hg33 ?_
            refine gop (y_bare (y_eql rfl rfl)) rfl rfl rfl ?_
            refine gop (y_pick_f (v := .bool _) rfl hg33 rfl) rfl rfl rfl ?_
            refine gop (y_assign (v := .bool _) rfl) rfl rfl rfl ?_
            refine gops_nil ?_
            refine hN2 _ _ ?_
            refine gfrom [(2, .bool _)] ⟨rfl, trivial⟩ fun σ => ?_
            refine gret fun w1 hM => ?_
            refine ⟨_, res1 rfl (rt (v := .bool _) rfl), ?_⟩
            first | (exfalso; omega) | exact ⟨by rw [show letterB n = true from decide_eq_true (by omega)], hM.low⟩ | exact ⟨by rw [show letterB n = decide ((n : Int) = 45) from decide_eq_decide.2 (by omega)], hM.low⟩
          · 
            have hg33d := of_decide_eq_true hg33
            refine gop_off rfl rfl rfl rfl hg33 rfl rfl ?_
            refine gop (y_pick_t (v := .bool _) rfl hg33 rfl) rfl rfl rfl ?_
            refine gop (y_assign (v := .bool _) rfl) rfl rfl rfl ?_
            refine gops_nil ?_
            refine hN2 _ _ ?_
            refine gfrom [(2, .bool _)] ⟨rfl, trivial⟩ fun σ => ?_
            refine gret fun w1 hM => ?_
            refine ⟨_, res1 rfl (rt (v := .bool _) rfl), ?_⟩
            first | (exfalso; omega) | exact ⟨by rw [show letterB n = true from decide_eq_true (by omega)], hM.low⟩ | exact ⟨by rw [show letterB n = decide ((n : Int) = 45) from decide_eq_decide.2 (by omega)], hM.low⟩
        · 
          have hg29d := of_decide_eq_true hg29
          refine gop_off rfl rfl rfl rfl hg29 rfl rfl ?_
          refine gop (y_pick_t (v := .bool _) rfl hg29 rfl) rfl rfl rfl ?_
          refine gop (y_move (v := .bool _) rfl) rfl rfl rfl ?_
          refine gop_off rfl rfl rfl rfl rfl rfl rfl ?_
          refine gop_off rfl rfl rfl rfl rfl rfl rfl ?_
          refine gop (y_pick_t (v := .bool _) rfl rfl rfl) rfl rfl rfl ?_
          refine gop (y_assign (v := .bool _) rfl) rfl rfl rfl ?_
          refine gops_nil ?_
          refine hN2 _ _ ?_
          refine gfrom [(2, .bool _)] ⟨rfl, trivial⟩ fun σ => ?_
          refine gret fun w1 hM => ?_
          refine ⟨_, res1 rfl (rt (v := .bool _) rfl), ?_⟩
          first | (exfalso; omega) | exact ⟨by rw [show letterB n = true from decide_eq_true (by omega)], hM.low⟩ | exact ⟨by rw [show letterB n = decide ((n : Int) = 45) from decide_eq_decide.2 (by omega)], hM.low⟩
set_option maxHeartbeats 1000000 in
theorem isName_any (w : World) (s : ByteArray) (hs : s.size ≤ 4000000) : Calls Tryd.prog 48 #[.string s] w fun e w' => e = .returned (.bool (nameOk s)) ∧ Below w.heap.size w w' := by
  refine gcalls Tryd.func48 rfl Tryd.ntmps48 (Nat.le_of_ble_eq_true rfl) ?_
  refine gfrom [(0, .string _)] ⟨rfl, trivial⟩ fun σ => ?_
  refine gseq fun N1 hN1 => ?_
  refine greg ?_
  refine gop (y_assign (v := .bool _) rfl) rfl rfl rfl ?_
  refine gops_nil ?_
  refine hN1 _ _ ?_
  refine gfrom [(0, .string _)] ⟨rfl, trivial⟩ fun σ => ?_
  refine gseq fun N2 hN2 => ?_
  refine gseq fun N3 hN3 => ?_
  refine greg ?_
  refine gop (y_assign (v := .int _ _) rfl) rfl rfl rfl ?_
  refine gops_nil ?_
  refine hN3 _ _ ?_
  refine gfrom [(0, .string _), (3, .int _ _)] ⟨rfl, rfl, trivial⟩ fun σ => ?_
  refine gblock ?_
  refine gfrom2 [(3, .int _ _)] [(0, .string _)] ⟨rfl, trivial⟩ ⟨rfl, trivial⟩ fun σ => ?_
  refine gloop2 (G := Nat) (fun k => k ≤ s.size ∧ ∀ j, j < k → letterB (byteAt s j) = true) (fun k => s.size - k) (fun k => [(3, .int .i64 (k : Int))]) (fun k => []) (0) ?h0 ⟨rfl, trivial⟩ ⟨rfl, trivial⟩ rfl ?round
  case h0 => exact ⟨Nat.zero_le _, fun _ h => absurd h (by omega)⟩
  case round =>
    intro k hφ σ
    obtain ⟨hk, hz⟩ := hφ
    refine gseq fun N4 hN4 => ?_
    refine gseq fun N5 hN5 => ?_
    refine greg ?_
    refine gop (y_move (v := .int _ _) rfl) rfl rfl rfl ?_
    refine gop (y_move (v := .string _) rfl) rfl rfl rfl ?_
    refine gop (y_lens Tryd.underlying9 rfl) rfl rfl rfl ?_
    refine gop (y_lss rfl rfl) rfl rfl rfl ?_
    refine gops_nil ?_
    refine hN5 _ _ ?_
    refine gfrom [(0, .string _), (3, .int _ _), (7, .bool _)] ⟨rfl, rfl, rfl, trivial⟩ fun σ => ?_
    refine gcond (b := _) rfl (fun hc7 => ?_) (fun hc7 => ?_)
    · 
      replace hc7 := of_decide_eq_true hc7
      refine gskip ?_
      refine hN4 _ _ ?_
      refine gfrom [(0, .string _), (3, .int _ _)] ⟨rfl, rfl, trivial⟩ fun σ => ?_
      refine gseq fun N6 hN6 => ?_
      refine gblock ?_
      refine gseq fun N7 hN7 => ?_
      refine greg ?_
      refine gop (y_move (v := .string _) rfl) rfl rfl rfl ?_
      refine gop (y_move (v := .int _ _) rfl) rfl rfl rfl ?_
      refine gop (y_stridx (m := k) Tryd.underlying9 rfl rfl (by omega) (by omega) (by omega)) rfl rfl rfl ?_
      refine gop_pure (e_call (vs := [.int _ _]) Tryd.func59 rfl (by kernel_rfl) rfl) (fun w hM => isByte_any w _) rfl rfl rfl ?_
      refine gop (y_not rfl) rfl rfl rfl ?_
      refine gops_nil ?_
      refine hN7 _ _ ?_
      refine gfrom [(0, .string _), (3, .int _ _), (14, .bool _)] ⟨rfl, rfl, rfl, trivial⟩ fun σ => ?_
      refine gcond (b := _) rfl (fun hc14 => ?_) (fun hc14 => ?_)
      · 
        replace hc14 := not_t hc14
        have hB : nameOk s = false := nameOk_bad (k := k) (by omega) hc14
        refine gseq fun N8 hN8 => ?_
        refine greg ?_
        refine gop (y_assign (v := .bool _) rfl) rfl rfl rfl ?_
        refine gops_nil ?_
        refine hN8 _ _ ?_
        refine gfrom [(2, .bool _)] ⟨rfl, trivial⟩ fun σ => ?_
        refine gret fun w1 hM => ?_
        refine ⟨_, res1 rfl (rt (v := .bool _) rfl), ?_⟩
        exact ⟨by rw [hB], hM.low⟩
      · 
        replace hc14 := not_f hc14
        refine gskip ?_
        refine hN6 _ _ ?_
        refine gfrom [(0, .string _), (3, .int _ _)] ⟨rfl, rfl, trivial⟩ fun σ => ?_
        refine greg ?_
        refine gop (y_move (v := .int _ _) rfl) rfl rfl rfl ?_
        refine gop (y_add rfl rfl ⟨by omega, by omega⟩) rfl rfl rfl ?_
        refine gop (y_assign (v := .int _ _) rfl) rfl rfl rfl ?_
        refine gops_nil ?_
        refine gnext2 (k + 1) (by omega) (⟨by omega, fun j hj => by rcases Nat.lt_succ_iff_lt_or_eq.1 hj with h1 | rfl; exact hz j h1; exact hc14⟩) ⟨rfl, trivial⟩ ⟨rfl, trivial⟩ ⟨_, rfl⟩
    · 
      replace hc7 := of_decide_eq_false hc7
      have hN := nameOk_all (s := s) (fun j hj => hz j (by omega))
      refine gexit ?_
      refine hN2 _ _ ?_
      refine gfrom [(0, .string _)] ⟨rfl, trivial⟩ fun σ => ?_
      refine gseq fun N9 hN9 => ?_
      refine greg ?_
      refine gop (y_move (v := .string _) rfl) rfl rfl rfl ?_
      refine gop (y_neqs rfl rfl) rfl rfl rfl ?_
      refine gop (y_move (v := .bool _) rfl) rfl rfl rfl ?_
      refine gop_if (want := true) rfl rfl rfl rfl rfl rfl (fun hg17 => ?_) (fun hg17 => ?_)
      · 
        have hg17d := hg17
        refine gop (y_bare (y_move (v := .string _) rfl)) rfl rfl rfl ?_
        refine gop_on rfl rfl rfl rfl hg17 ?_
        refine gop (y_bare (y_neqs rfl rfl)) rfl rfl rfl ?_
        refine gop (y_pick_t (v := .bool _) rfl hg17 rfl) rfl rfl rfl ?_
        refine gop (y_move (v := .bool _) rfl) rfl rfl rfl ?_
        refine gop_if (want := true) rfl rfl rfl rfl rfl rfl (fun hg21 => ?_) (fun hg21 => ?_)
        · 
          have hg21d := hg21
          refine gop (y_bare (y_move (v := .string _) rfl)) rfl rfl rfl ?_
          refine gop_on rfl rfl rfl rfl hg21 ?_
          refine gop (y_bare (y_neqs rfl rfl)) rfl rfl rfl ?_
          refine gop (y_pick_t (v := .bool _) rfl hg21 rfl) rfl rfl rfl ?_
          refine gop (y_assign (v := .bool _) rfl) rfl rfl rfl ?_
          refine gops_nil ?_
          refine hN9 _ _ ?_
          refine gfrom [(2, .bool _)] ⟨rfl, trivial⟩ fun σ => ?_
          refine gret fun w1 hM => ?_
          refine ⟨_, res1 rfl (rt (v := .bool _) rfl), ?_⟩
          exact ⟨by rw [hN]; unfold strEq; simp_all, hM.low⟩
        · 
          have hg21d := hg21
          refine gop_off rfl rfl rfl rfl hg21 rfl rfl ?_
          refine gop (y_pick_f (v := .bool _) rfl hg21 rfl) rfl rfl rfl ?_
          refine gop (y_assign (v := .bool _) rfl) rfl rfl rfl ?_
          refine gops_nil ?_
          refine hN9 _ _ ?_
          refine gfrom [(2, .bool _)] ⟨rfl, trivial⟩ fun σ => ?_
          refine gret fun w1 hM => ?_
          refine ⟨_, res1 rfl (rt (v := .bool _) rfl), ?_⟩
          exact ⟨by rw [hN]; unfold strEq; simp_all, hM.low⟩
      · 
        have hg17d := hg17
        refine gop_off rfl rfl rfl rfl hg17 rfl rfl ?_
        refine gop (y_pick_f (v := .bool _) rfl hg17 rfl) rfl rfl rfl ?_
        refine gop (y_move (v := .bool _) rfl) rfl rfl rfl ?_
        refine gop_off rfl rfl rfl rfl rfl rfl rfl ?_
        refine gop_off rfl rfl rfl rfl rfl rfl rfl ?_
        refine gop (y_pick_f (v := .bool _) rfl rfl rfl) rfl rfl rfl ?_
        refine gop (y_assign (v := .bool _) rfl) rfl rfl rfl ?_
        refine gops_nil ?_
        refine hN9 _ _ ?_
        refine gfrom [(2, .bool _)] ⟨rfl, trivial⟩ fun σ => ?_
        refine gret fun w1 hM => ?_
        refine ⟨_, res1 rfl (rt (v := .bool _) rfl), ?_⟩
        exact ⟨by rw [hN]; unfold strEq; simp_all, hM.low⟩
set_option maxHeartbeats 2000000 in
theorem cut_any (w : World) (s : ByteArray) (hs : s.size ≤ 4000000) :
    Calls Tryd.prog 47 #[.string s] w fun e w' => ∃ v T', e = .returned v ∧ T' = [rowl strCells w.heap.size 9 1 v (cutS s)] ∧ Mem w T' w' := by
  refine gcalls Tryd.func47 rfl Tryd.ntmps47 (Nat.le_of_ble_eq_true rfl) ?_
  refine gfrom [(0, .string _)] ⟨rfl, trivial⟩ fun σ => ?_
  refine gseq fun N1 hN1 => ?_
  refine greg ?_
  refine gop (y_assign (v := .slice _ _ _) rfl) rfl rfl rfl ?_
  refine gops_nil ?_
  refine hN1 _ _ ?_
  refine gfrom [(0, .string _)] ⟨rfl, trivial⟩ fun σ => ?_
  refine gseq fun N2 hN2 => ?_
  refine greg ?_
  refine gop (y_assign (v := .slice _ _ _) rfl) rfl rfl rfl ?_
  refine gops_nil ?_
  refine hN2 _ _ ?_
  refine gfrom [(0, .string _), (3, .slice _ _ _)] ⟨rfl, rfl, trivial⟩ fun σ => ?_
  refine gseq fun N3 hN3 => ?_
  refine greg ?_
  refine gop (y_assign (v := .int _ _) rfl) rfl rfl rfl ?_
  refine gops_nil ?_
  refine hN3 _ _ ?_
  refine gfrom [(0, .string _), (3, .slice _ _ _), (4, .int _ _)] ⟨rfl, rfl, rfl, trivial⟩ fun σ => ?_
  refine gseq fun N4 hN4 => ?_
  refine gseq fun N5 hN5 => ?_
  refine greg ?_
  refine gop (y_assign (v := .int _ _) rfl) rfl rfl rfl ?_
  refine gops_nil ?_
  refine hN5 _ _ ?_
  refine gfrom [(0, .string _), (3, .slice _ _ _), (4, .int _ _), (5, .int _ _)] ⟨rfl, rfl, rfl, rfl, trivial⟩ fun σ => ?_
  refine gblock ?_
  refine gnilrow strCells 9 1 ?_
  refine gfrom2 [(3, .slice _ _ _), (4, .int _ _), (5, .int _ _)] [(0, .string _)] ⟨rfl, rfl, rfl, trivial⟩ ⟨rfl, trivial⟩ fun σ => ?_
  refine gloop2 (G := Nat × Nat × Option Addr × Nat × List ByteArray) (fun (i, p, Av, cv, l) => i ≤ s.size + 1 ∧ p ≤ i ∧ l.length ≤ i ∧ (∀ j, p ≤ j → j < i → byteAt s j ≠ 47) ∧ (i ≤ s.size → l ++ (splitL ((bsOf s).drop p)).map baOf = cutS s) ∧ (i = s.size + 1 → l = cutS s)) (fun (i, p, Av, cv, l) => s.size + 1 - i) (fun (i, p, Av, cv, l) => [(3, .slice Av l.length cv), (4, .int .i64 (p : Int)), (5, .int .i64 (i : Int))]) (fun (i, p, Av, cv, l) => [(0, rowl strCells w.heap.size 9 1 (.slice Av l.length cv) l)]) ((0, 0, none, 0, [])) ?h0 ⟨rfl, rfl, rfl, trivial⟩ ⟨rfl, trivial⟩ rfl ?round
  case h0 => exact ⟨Nat.zero_le _, Nat.le_refl _, Nat.le_refl _, fun _ _ h => absurd h (by omega), fun _ => rfl, fun h => by simp at h⟩
  case round =>
    rintro ⟨i, p, Av, cv, l⟩ hφ σ
    obtain ⟨hi, hpi, hll, hno, hl1, hl2⟩ := hφ
    refine gT [rowl _ _ _ _ _ _] rfl ?_
    refine gseq fun N6 hN6 => ?_
    refine gseq fun N7 hN7 => ?_
    refine greg ?_
    refine gop (y_move (v := .int _ _) rfl) rfl rfl rfl ?_
    refine gop (y_move (v := .string _) rfl) rfl rfl rfl ?_
    refine gop (y_lens Tryd.underlying9 rfl) rfl rfl rfl ?_
    refine gop (y_leq rfl rfl) rfl rfl rfl ?_
    refine gops_nil ?_
    refine hN7 _ _ ?_
    refine gfrom [(0, .string _), (3, .slice Av _ cv), (4, .int _ _), (5, .int _ _), (9, .bool _)] ⟨rfl, rfl, rfl, rfl, rfl, trivial⟩ fun σ => ?_
    refine gcond (b := _) rfl (fun hc9 => ?_) (fun hc9 => ?_)
    · 
      replace hc9 := of_decide_eq_true hc9
      have hi1 : i ≤ s.size := by omega
      have hlst := hl1 hi1
      refine gskip ?_
      refine hN6 _ _ ?_
      refine gfrom [(0, .string _), (3, .slice Av _ cv), (4, .int _ _), (5, .int _ _)] ⟨rfl, rfl, rfl, rfl, trivial⟩ fun σ => ?_
      refine gseq fun N8 hN8 => ?_
      refine gblock ?_
      refine gseq fun N9 hN9 => ?_
      refine greg ?_
      refine gop (y_move (v := .int _ _) rfl) rfl rfl rfl ?_
      refine gop (y_move (v := .string _) rfl) rfl rfl rfl ?_
      refine gop (y_lens Tryd.underlying9 rfl) rfl rfl rfl ?_
      refine gop (y_eql rfl rfl) rfl rfl rfl ?_
      refine gop (y_move (v := .bool _) rfl) rfl rfl rfl ?_
      refine gop_if (want := false) rfl rfl rfl rfl rfl rfl (fun hg16 => ?_) (fun hg16 => ?_)
      · 
        have hg16d := of_decide_eq_false hg16
        refine gop (y_bare (y_move (v := .string _) rfl)) rfl rfl rfl ?_
        refine gop_on rfl rfl rfl rfl hg16 ?_
        refine gop (y_bare (y_move (v := .int _ _) rfl)) rfl rfl rfl ?_
        refine gop_on rfl rfl rfl rfl hg16 ?_
        refine gop (y_bare (y_stridx (m := i) Tryd.underlying9 rfl rfl (by omega) (by omega) (by omega))) rfl rfl rfl ?_
        refine gop_on rfl rfl rfl rfl hg16 ?_
        refine gop (y_bare (y_eql rfl rfl)) rfl rfl rfl ?_
        refine gop (y_pick_f (v := .bool _) rfl hg16 rfl) rfl rfl rfl ?_
        refine gops_nil ?_
        refine hN9 _ _ ?_
        refine gfrom [(0, .string _), (3, .slice Av _ cv), (4, .int _ _), (5, .int _ _), (21, .bool _)] ⟨rfl, rfl, rfl, rfl, rfl, trivial⟩ fun σ => ?_
        refine gcond (b := _) rfl (fun hc21 => ?_) (fun hc21 => ?_)
        · 
          replace hc21 := of_decide_eq_true hc21
          refine gseq fun N10 hN10 => ?_
          refine greg ?_
          refine gop (y_move (v := .slice Av _ cv) rfl) rfl rfl rfl ?_
          refine gop (y_move (v := .string _) rfl) rfl rfl rfl ?_
          refine gop (y_move (v := .int _ _) rfl) rfl rfl rfl ?_
          refine gop (y_move (v := .int _ _) rfl) rfl rfl rfl ?_
          refine gop (y_strslice Tryd.underlying9 rfl rfl rfl (by omega) (by omega) (by omega)) rfl rfl rfl ?_
          refine gop_lit (vs := [.string _]) (cells := #[_]) Tryd.underlying37 Tryd.sizeOf9 Tryd.zeroValue9 rfl (by decide) (by decide) rfl rfl rfl rfl (fun b27 hb27 => ?_)
          refine gop_append 0 (f := strCells) (l2 := [s.extract p i]) Tryd.underlying37 el9 wide_str (v := .slice Av _ cv) rfl rfl rfl rfl (fun h => by cases h) (by simp [maxLen]; omega) (by simp; omega) (src_box 1 rfl rfl) rfl (fun v28 => ?_)
          refine gops_fact (fun w hM => own_form (hM.own 0 rfl)) ?_
          rintro ⟨A28, c28, rfl, hc28, hm28⟩
          refine gop (y_assign (v := .slice A28 _ c28) rfl) rfl rfl rfl ?_
          refine gops_nil ?_
          refine hN10 _ _ ?_
          refine gT [rowl _ _ _ _ _ _, box b27 _] rfl ?_
          refine gfrom [(0, .string _), (3, .slice A28 _ c28), (5, .int _ _)] ⟨rfl, rfl, rfl, trivial⟩ fun σ => ?_
          refine greg ?_
          refine gop (y_move (v := .int _ _) rfl) rfl rfl rfl ?_
          refine gop (y_add rfl rfl ⟨by omega, by omega⟩) rfl rfl rfl ?_
          refine gop (y_assign (v := .int _ _) rfl) rfl rfl rfl ?_
          refine gops_nil ?_
          refine hN8 _ _ ?_
          refine gfrom [(0, .string _), (3, .slice A28 _ c28), (4, .int _ _), (5, .int _ _)] ⟨rfl, rfl, rfl, rfl, trivial⟩ fun σ => ?_
          refine greg ?_
          refine gop (y_move (v := .int _ _) rfl) rfl rfl rfl ?_
          refine gop (y_add rfl rfl ⟨by omega, by omega⟩) rfl rfl rfl ?_
          refine gop (y_assign (v := .int _ _) rfl) rfl rfl rfl ?_
          refine gops_nil ?_
          refine gnext2 ((i + 1, i + 1, A28, c28, l ++ [s.extract p i])) (by show s.size + 1 - (i + 1) < s.size + 1 - i; omega) (⟨show i + 1 ≤ _ by omega, Nat.le_refl _, by simp; omega, fun j h1 h2 => absurd h1 (by omega), fun _ => by rw [← hlst, cut_next hpi (by omega) (by omega) hno]; simp, fun h => absurd h (by show ¬ i + 1 = _; omega)⟩) ⟨rfl, rfl, rfl, trivial⟩ ⟨rfl, trivial⟩ ⟨_, rfl⟩
        · 
          replace hc21 := of_decide_eq_false hc21
          refine gskip ?_
          refine hN8 _ _ ?_
          refine gfrom [(0, .string _), (3, .slice Av _ cv), (4, .int _ _), (5, .int _ _)] ⟨rfl, rfl, rfl, rfl, trivial⟩ fun σ => ?_
          refine greg ?_
          refine gop (y_move (v := .int _ _) rfl) rfl rfl rfl ?_
          refine gop (y_add rfl rfl ⟨by omega, by omega⟩) rfl rfl rfl ?_
          refine gop (y_assign (v := .int _ _) rfl) rfl rfl rfl ?_
          refine gops_nil ?_
          refine gnext2 ((i + 1, p, Av, cv, l)) (by show s.size + 1 - (i + 1) < s.size + 1 - i; omega) (⟨show i + 1 ≤ _ by omega, by show p ≤ i + 1; omega, by show l.length ≤ i + 1; omega, fun j h1 h2 => by rcases Nat.lt_succ_iff_lt_or_eq.1 h2 with h3 | rfl; exact hno j h1 h3; intro h; exact hc21 (by omega), fun _ => hlst, fun h => absurd h (by show ¬ i + 1 = _; omega)⟩) ⟨rfl, rfl, rfl, trivial⟩ ⟨rfl, trivial⟩ ⟨_, rfl⟩
      · 
        have hg16d := of_decide_eq_true hg16
        refine gop_off rfl rfl rfl rfl hg16 rfl rfl ?_
        refine gop_off rfl rfl rfl rfl hg16 rfl rfl ?_
        refine gop_off rfl rfl rfl rfl hg16 rfl rfl ?_
        refine gop (y_pick_t (v := .bool _) rfl hg16 rfl) rfl rfl rfl ?_
        refine gops_nil ?_
        refine hN9 _ _ ?_
        refine gfrom [(0, .string _), (3, .slice Av _ cv), (4, .int _ _), (5, .int _ _), (21, .bool _)] ⟨rfl, rfl, rfl, rfl, rfl, trivial⟩ fun σ => ?_
        refine gcond (b := _) rfl (fun hc21 => ?_) (fun hc21 => ?_)
        · 
          refine gseq fun N11 hN11 => ?_
          refine greg ?_
          refine gop (y_move (v := .slice Av _ cv) rfl) rfl rfl rfl ?_
          refine gop (y_move (v := .string _) rfl) rfl rfl rfl ?_
          refine gop (y_move (v := .int _ _) rfl) rfl rfl rfl ?_
          refine gop (y_move (v := .int _ _) rfl) rfl rfl rfl ?_
          refine gop (y_strslice Tryd.underlying9 rfl rfl rfl (by omega) (by omega) (by omega)) rfl rfl rfl ?_
          refine gop_lit (vs := [.string _]) (cells := #[_]) Tryd.underlying37 Tryd.sizeOf9 Tryd.zeroValue9 rfl (by decide) (by decide) rfl rfl rfl rfl (fun b27 hb27 => ?_)
          refine gop_append 0 (f := strCells) (l2 := [s.extract p i]) Tryd.underlying37 el9 wide_str (v := .slice Av _ cv) rfl rfl rfl rfl (fun h => by cases h) (by simp [maxLen]; omega) (by simp; omega) (src_box 1 rfl rfl) rfl (fun v28 => ?_)
          refine gops_fact (fun w hM => own_form (hM.own 0 rfl)) ?_
          rintro ⟨A28, c28, rfl, hc28, hm28⟩
          refine gop (y_assign (v := .slice A28 _ c28) rfl) rfl rfl rfl ?_
          refine gops_nil ?_
          refine hN11 _ _ ?_
          refine gT [rowl _ _ _ _ _ _, box b27 _] rfl ?_
          refine gfrom [(0, .string _), (3, .slice A28 _ c28), (5, .int _ _)] ⟨rfl, rfl, rfl, trivial⟩ fun σ => ?_
          refine greg ?_
          refine gop (y_move (v := .int _ _) rfl) rfl rfl rfl ?_
          refine gop (y_add rfl rfl ⟨by omega, by omega⟩) rfl rfl rfl ?_
          refine gop (y_assign (v := .int _ _) rfl) rfl rfl rfl ?_
          refine gops_nil ?_
          refine hN8 _ _ ?_
          refine gfrom [(0, .string _), (3, .slice A28 _ c28), (4, .int _ _), (5, .int _ _)] ⟨rfl, rfl, rfl, rfl, trivial⟩ fun σ => ?_
          refine greg ?_
          refine gop (y_move (v := .int _ _) rfl) rfl rfl rfl ?_
          refine gop (y_add rfl rfl ⟨by omega, by omega⟩) rfl rfl rfl ?_
          refine gop (y_assign (v := .int _ _) rfl) rfl rfl rfl ?_
          refine gops_nil ?_
          refine gnext2 ((i + 1, i + 1, A28, c28, l ++ [s.extract p i])) (by show s.size + 1 - (i + 1) < s.size + 1 - i; omega) (⟨show i + 1 ≤ _ by omega, Nat.le_refl _, by simp; omega, fun j h1 h2 => absurd h1 (by omega), fun h => absurd h (by show ¬ i + 1 ≤ _; omega), fun _ => by rw [← hlst, cut_last (fun j h1 h2 => hno j h1 (by omega)), show i = s.size by omega]⟩) ⟨rfl, rfl, rfl, trivial⟩ ⟨rfl, trivial⟩ ⟨_, rfl⟩
        · 
          cases hc21
    · 
      replace hc9 := of_decide_eq_false hc9
      have hfin := hl2 (by omega)
      refine gexit ?_
      refine hN4 _ _ ?_
      refine gfrom [(3, .slice Av _ cv)] ⟨rfl, trivial⟩ fun σ => ?_
      refine gseq fun N12 hN12 => ?_
      refine greg ?_
      refine gop (y_move (v := .slice Av _ cv) rfl) rfl rfl rfl ?_
      refine gop (y_assign (v := .slice Av _ cv) rfl) rfl rfl rfl ?_
      refine gops_nil ?_
      refine hN12 _ _ ?_
      refine gfrom [(2, .slice Av _ cv)] ⟨rfl, trivial⟩ fun σ => ?_
      refine gret fun w1 hM => ?_
      refine ⟨_, res1 rfl (rt (v := .slice Av _ cv) rfl), ?_⟩
      rw [hfin] at hM
      exact ⟨_, _, by rw [hfin], rfl, hM⟩
set_option maxHeartbeats 1000000 in
theorem isPath_any (w : World) (s : ByteArray) (hs : s.size ≤ 4000000) : Calls Tryd.prog 17 #[.string s] w fun e w' => e = .returned (.bool (pathOk s)) ∧ Below w.heap.size w w' := by
  have hcl := cutS_len s
  refine gcalls Tryd.func17 rfl Tryd.ntmps17 (Nat.le_of_ble_eq_true rfl) ?_
  refine gfrom [(0, .string _)] ⟨rfl, trivial⟩ fun σ => ?_
  refine gseq fun N1 hN1 => ?_
  refine greg ?_
  refine gop (y_assign (v := .bool _) rfl) rfl rfl rfl ?_
  refine gops_nil ?_
  refine hN1 _ _ ?_
  refine gfrom [(0, .string _)] ⟨rfl, trivial⟩ fun σ => ?_
  refine gseq fun N2 hN2 => ?_
  refine greg ?_
  refine gop (y_move (v := .string _) rfl) rfl rfl rfl ?_
  refine gop_got (fun v T' => ∃ lo, w.heap.size ≤ lo ∧ T' = [rowl strCells lo 9 1 v (cutS s)]) (e_call (vs := [.string _]) Tryd.func47 rfl (by kernel_rfl) rfl) (fun w hM => (cut_any w s hs).mono fun _ _ ⟨v, T1, h1, h2, h3⟩ => ⟨v, T1, h1, ⟨_, hM.low.size, h2⟩, h3⟩) rfl rfl rfl ?_
  rintro v6 _ ⟨lo6, hlo6, rfl⟩
  refine gops_fact (fun w hM => row_form (hM.ok _ (List.mem_of_getElem? (i := 0) rfl))) ?_
  rintro ⟨A6, c6, rfl, hc6, hm6, hn6⟩
  refine gop (y_assign (v := .slice A6 _ c6) rfl) rfl rfl rfl ?_
  refine gops_nil ?_
  refine hN2 _ _ ?_
  refine gT [rowl _ _ _ _ _ _] rfl ?_
  refine gfrom [(0, .string _), (3, .slice A6 _ c6)] ⟨rfl, rfl, trivial⟩ fun σ => ?_
  refine gseq fun N3 hN3 => ?_
  refine gseq fun N4 hN4 => ?_
  refine greg ?_
  refine gop (y_assign (v := .int _ _) rfl) rfl rfl rfl ?_
  refine gops_nil ?_
  refine hN4 _ _ ?_
  refine gfrom [(0, .string _), (3, .slice A6 _ c6), (4, .int _ _)] ⟨rfl, rfl, rfl, trivial⟩ fun σ => ?_
  refine gblock ?_
  refine gfrom2 [(4, .int _ _)] [(0, .string _), (3, .slice A6 _ c6)] ⟨rfl, trivial⟩ ⟨rfl, rfl, trivial⟩ fun σ => ?_
  refine gloop2 (G := Nat) (fun k => k ≤ (cutS s).length ∧ ∀ j (h : j < (cutS s).length), j < k → nameOk (cutS s)[j] = true) (fun k => (cutS s).length - k) (fun k => [(4, .int .i64 (k : Int))]) (fun k => []) (0) ?h0 ⟨rfl, trivial⟩ ⟨rfl, rfl, trivial⟩ rfl ?round
  case h0 => exact ⟨Nat.zero_le _, fun _ _ h => absurd h (by omega)⟩
  case round =>
    intro k hφ σ
    obtain ⟨hk, hz⟩ := hφ
    refine gseq fun N5 hN5 => ?_
    refine gseq fun N6 hN6 => ?_
    refine greg ?_
    refine gop (y_move (v := .int _ _) rfl) rfl rfl rfl ?_
    refine gop (y_move (v := .slice A6 _ c6) rfl) rfl rfl rfl ?_
    refine gop (y_len Tryd.underlying37 rfl) rfl rfl rfl ?_
    refine gop (y_lss rfl rfl) rfl rfl rfl ?_
    refine gops_nil ?_
    refine hN6 _ _ ?_
    refine gfrom [(0, .string _), (3, .slice A6 _ c6), (4, .int _ _), (10, .bool _)] ⟨rfl, rfl, rfl, rfl, trivial⟩ fun σ => ?_
    refine gcond (b := _) rfl (fun hc10 => ?_) (fun hc10 => ?_)
    · 
      replace hc10 := of_decide_eq_true hc10
      have hk1 : k < (cutS s).length := by omega
      refine g_fact (fun w hM => own_some (hM.own 0 rfl) (by omega)) ?_
      rintro ⟨rg0, cg0, hvg, -, -⟩
      simp only [Value.slice.injEq] at hvg
      obtain ⟨rfl, -, rfl⟩ := hvg
      refine gskip ?_
      refine hN5 _ _ ?_
      refine gfrom [(0, .string _), (3, .slice (some ⟨rg0, 0, none⟩) _ _), (4, .int _ _)] ⟨rfl, rfl, rfl, trivial⟩ fun σ => ?_
      refine gseq fun N7 hN7 => ?_
      refine gblock ?_
      refine gseq fun N8 hN8 => ?_
      refine greg ?_
      refine gop (y_move (v := .slice (some ⟨rg0, 0, none⟩) _ _) rfl) rfl rfl rfl ?_
      refine gop (y_move (v := .int _ _) rfl) rfl rfl rfl ?_
      refine gop (y_indexAddr Tryd.underlying37 Tryd.sizeOf9 rfl rfl rfl (by omega) (by omega)) rfl rfl rfl ?_
      refine gop (y_load Tryd.isAgg9 rfl (cells_rowl 0 (f := strCells) (l := cutS s) rfl rfl (fun _ => rfl) (List.getElem?_eq_getElem hk1) 0 _ rfl)) rfl rfl rfl ?_
      refine gop_pure (e_call (vs := [.string _]) Tryd.func48 rfl (by kernel_rfl) rfl) (fun w hM => isName_any w _ (cutS_size (List.getElem_mem hk1) hs)) rfl rfl rfl ?_
      refine gop (y_not rfl) rfl rfl rfl ?_
      refine gops_nil ?_
      refine hN8 _ _ ?_
      refine gfrom [(0, .string _), (3, .slice (some ⟨rg0, 0, none⟩) _ _), (4, .int _ _), (18, .bool _)] ⟨rfl, rfl, rfl, rfl, trivial⟩ fun σ => ?_
      refine gcond (b := _) rfl (fun hc18 => ?_) (fun hc18 => ?_)
      · 
        replace hc18 := not_t hc18
        have hB : pathOk s = false := by unfold pathOk; rw [Bool.and_eq_false_iff]; left; rw [List.all_eq_false]; exact ⟨_, List.getElem_mem hk1, by simp [hc18]⟩
        refine gseq fun N9 hN9 => ?_
        refine greg ?_
        refine gop (y_assign (v := .bool _) rfl) rfl rfl rfl ?_
        refine gops_nil ?_
        refine hN9 _ _ ?_
        refine gfrom [(2, .bool _)] ⟨rfl, trivial⟩ fun σ => ?_
        refine gret fun w1 hM => ?_
        refine ⟨_, res1 rfl (rt (v := .bool _) rfl), ?_⟩
        exact ⟨by rw [hB], hM.low⟩
      · 
        replace hc18 := not_f hc18
        refine gskip ?_
        refine hN7 _ _ ?_
        refine gfrom [(0, .string _), (3, .slice (some ⟨rg0, 0, none⟩) _ _), (4, .int _ _)] ⟨rfl, rfl, rfl, trivial⟩ fun σ => ?_
        refine greg ?_
        refine gop (y_move (v := .int _ _) rfl) rfl rfl rfl ?_
        refine gop (y_add rfl rfl ⟨by omega, by omega⟩) rfl rfl rfl ?_
        refine gop (y_assign (v := .int _ _) rfl) rfl rfl rfl ?_
        refine gops_nil ?_
        refine gnext2 (k + 1) (by omega) (⟨by omega, fun j h hj => by rcases Nat.lt_succ_iff_lt_or_eq.1 hj with h1 | rfl; exact hz j h h1; exact hc18⟩) ⟨rfl, trivial⟩ ⟨rfl, rfl, trivial⟩ ⟨_, rfl⟩
    · 
      replace hc10 := of_decide_eq_false hc10
      have hB : pathOk s = decide (s.size ≤ 60) := by unfold pathOk; rw [List.all_eq_true.2 (fun x hx => by obtain ⟨j, hj, rfl⟩ := List.getElem_of_mem hx; exact hz j hj (by omega)), Bool.true_and]
      refine gexit ?_
      refine hN3 _ _ ?_
      refine gfrom [(0, .string _)] ⟨rfl, trivial⟩ fun σ => ?_
      refine gseq fun N10 hN10 => ?_
      refine greg ?_
      refine gop (y_move (v := .string _) rfl) rfl rfl rfl ?_
      refine gop (y_lens Tryd.underlying9 rfl) rfl rfl rfl ?_
      refine gop (y_leq rfl rfl) rfl rfl rfl ?_
      refine gop (y_assign (v := .bool _) rfl) rfl rfl rfl ?_
      refine gops_nil ?_
      refine hN10 _ _ ?_
      refine gfrom [(2, .bool _)] ⟨rfl, trivial⟩ fun σ => ?_
      refine gret fun w1 hM => ?_
      refine ⟨_, res1 rfl (rt (v := .bool _) rfl), ?_⟩
      exact ⟨by rw [hB, show decide ((s.size : Int) ≤ 60) = decide (s.size ≤ 60) from decide_eq_decide.2 (by omega)], hM.low⟩
end Go.Proofs.YtijpaljdclhehaaDoor
namespace Go.Proofs.YtijpaljdclhehaaDoor
open Go.RowKit Go.Cf
set_option maxRecDepth 10000
set_option maxHeartbeats 2000000 in
theorem part_any (w : World) (s : ByteArray) (hs : s.size ≤ 4000000) : Calls Tryd.prog 65 #[.string s] w fun e w' => e = .returned (.int .i64 (partCode s : Nat)) ∧ Below w.heap.size w w' := by
  refine gcalls Tryd.func65 rfl Tryd.ntmps65 (Nat.le_of_ble_eq_true rfl) ?_
  refine gfrom [(0, .string _)] ⟨rfl, trivial⟩ fun σ => ?_
  refine gseq fun N1 hN1 => ?_
  refine greg ?_
  refine gop (y_assign (v := .int _ _) rfl) rfl rfl rfl ?_
  refine gops_nil ?_
  refine hN1 _ _ ?_
  refine gfrom [(0, .string _)] ⟨rfl, trivial⟩ fun σ => ?_
  refine gseq fun N2 hN2 => ?_
  refine gseq fun N3 hN3 => ?_
  refine greg ?_
  refine gop (y_move (v := .string _) rfl) rfl rfl rfl ?_
  refine gop (y_eqls rfl rfl) rfl rfl rfl ?_
  refine gop (y_move (v := .bool _) rfl) rfl rfl rfl ?_
  refine gop_if (want := false) rfl rfl rfl rfl rfl rfl (fun hg7 => ?_) (fun hg7 => ?_)
  · 
    have hg7d := hg7
    refine gop (y_bare (y_move (v := .string _) rfl)) rfl rfl rfl ?_
    refine gop_on rfl rfl rfl rfl hg7 ?_
    refine gop (y_bare (y_eqls rfl rfl)) rfl rfl rfl ?_
    refine gop (y_pick_f (v := .bool _) rfl hg7 rfl) rfl rfl rfl ?_
    refine gop (y_move (v := .bool _) rfl) rfl rfl rfl ?_
    refine gop_if (want := false) rfl rfl rfl rfl rfl rfl (fun hg11 => ?_) (fun hg11 => ?_)
    · 
      have hg11d := hg11
      refine gop (y_bare (y_move (v := .string _) rfl)) rfl rfl rfl ?_
      refine gop_on rfl rfl rfl rfl hg11 ?_
      refine gop (y_bare (y_eqls rfl rfl)) rfl rfl rfl ?_
      refine gop (y_pick_f (v := .bool _) rfl hg11 rfl) rfl rfl rfl ?_
      refine gops_nil ?_
      refine hN3 _ _ ?_
      refine gfrom [(0, .string _), (14, .bool _)] ⟨rfl, rfl, trivial⟩ fun σ => ?_
      refine gcond (b := _) rfl (fun hc14 => ?_) (fun hc14 => ?_)
      · 
        refine gseq fun N4 hN4 => ?_
        refine greg ?_
        refine gop (y_assign (v := .int _ _) rfl) rfl rfl rfl ?_
        refine gops_nil ?_
        refine hN4 _ _ ?_
        refine gfrom [(2, .int _ _)] ⟨rfl, trivial⟩ fun σ => ?_
        refine gret fun w1 hM => ?_
        refine ⟨_, res1 rfl (rt (v := .int _ _) rfl), ?_⟩
        exact ⟨by rw [show partCode s = 12 by simp_all [partCode, dotty, strEq]]; rfl, hM.low⟩
      · 
        refine gskip ?_
        refine hN2 _ _ ?_
        refine gfrom [(0, .string _)] ⟨rfl, trivial⟩ fun σ => ?_
        refine gseq fun N5 hN5 => ?_
        refine gseq fun N6 hN6 => ?_
        refine greg ?_
        refine gop (y_move (v := .string _) rfl) rfl rfl rfl ?_
        refine gop (y_lens Tryd.underlying9 rfl) rfl rfl rfl ?_
        refine gop (y_move (v := .int _ _) rfl) rfl rfl rfl ?_
        refine gops_nil ?_
        refine hN6 _ _ ?_
        refine gfrom [(0, .string _), (16, .int _ _), (17, .int _ _)] ⟨rfl, rfl, rfl, trivial⟩ fun σ => ?_
        refine gblock ?_
        refine gfrom2 [(17, .int _ _)] [(0, .string _), (16, .int _ _)] ⟨rfl, trivial⟩ ⟨rfl, rfl, trivial⟩ fun σ => ?_
        refine gloop2 (G := Nat) (fun k => k ≤ s.size ∧ (strEq s sStars = false → scanP s (s.size - k) = scanP s s.size)) (fun k => s.size - k) (fun k => [(17, .int .i64 (k : Int))]) (fun k => []) (0) ?h0 ⟨rfl, trivial⟩ ⟨rfl, rfl, trivial⟩ rfl ?round
        case h0 => exact ⟨Nat.zero_le _, fun _ => rfl⟩
        case round =>
          intro k hφ σ
          obtain ⟨hk, hz⟩ := hφ
          refine gseq fun N7 hN7 => ?_
          refine greg ?_
          refine gop (y_lss rfl rfl) rfl rfl rfl ?_
          refine gops_nil ?_
          refine hN7 _ _ ?_
          refine gfrom [(0, .string _), (16, .int _ _), (17, .int _ _), (18, .bool _)] ⟨rfl, rfl, rfl, rfl, trivial⟩ fun σ => ?_
          refine gseq fun N8 hN8 => ?_
          refine gcond (b := _) rfl (fun hc18 => ?_) (fun hc18 => ?_)
          · 
            replace hc18 := of_decide_eq_true hc18
            refine gskip ?_
            refine hN8 _ _ ?_
            refine gfrom [(0, .string _), (16, .int _ _), (17, .int _ _)] ⟨rfl, rfl, rfl, trivial⟩ fun σ => ?_
            refine gseq fun N9 hN9 => ?_
            refine gblock ?_
            refine gseq fun N10 hN10 => ?_
            refine greg ?_
            refine gop (y_move (v := .int _ _) rfl) rfl rfl rfl ?_
            refine gop (y_assign (v := .int _ _) rfl) rfl rfl rfl ?_
            refine gops_nil ?_
            refine hN10 _ _ ?_
            refine gfrom [(0, .string _), (3, .int _ _), (16, .int _ _), (17, .int _ _)] ⟨rfl, rfl, rfl, rfl, trivial⟩ fun σ => ?_
            refine gseq fun N11 hN11 => ?_
            refine greg ?_
            refine gop (y_move (v := .string _) rfl) rfl rfl rfl ?_
            refine gop (y_move (v := .int _ _) rfl) rfl rfl rfl ?_
            refine gop (y_stridx (m := k) Tryd.underlying9 rfl rfl (by omega) (by omega) (by omega)) rfl rfl rfl ?_
            refine gop (y_assign (v := .int _ _) rfl) rfl rfl rfl ?_
            refine gops_nil ?_
            refine hN11 _ _ ?_
            refine gfrom [(0, .string _), (3, .int _ _), (4, .int _ _), (16, .int _ _), (17, .int _ _)] ⟨rfl, rfl, rfl, rfl, rfl, trivial⟩ fun σ => ?_
            refine gblock ?_
            refine gseq fun N12 hN12 => ?_
            refine greg ?_
            refine gop (y_move (v := .string _) rfl) rfl rfl rfl ?_
            refine gop (y_eqls rfl rfl) rfl rfl rfl ?_
            refine gop (y_assign (v := .bool _) rfl) rfl rfl rfl ?_
            refine gops_nil ?_
            refine hN12 _ _ ?_
            refine gfrom [(0, .string _), (3, .int _ _), (4, .int _ _), (16, .int _ _), (17, .int _ _), (23, .bool _)] ⟨rfl, rfl, rfl, rfl, rfl, rfl, trivial⟩ fun σ => ?_
            refine gcond (b := _) rfl (fun hc23 => ?_) (fun hc23 => ?_)
            · 
              refine gskip ?_
              refine hN9 _ _ ?_
              refine gfrom [(0, .string _), (16, .int _ _), (17, .int _ _)] ⟨rfl, rfl, rfl, trivial⟩ fun σ => ?_
              refine greg ?_
              refine gop (y_add rfl rfl ⟨by omega, by omega⟩) rfl rfl rfl ?_
              refine gop (y_move (v := .int _ _) rfl) rfl rfl rfl ?_
              refine gops_nil ?_
              refine gnext2 (k + 1) (by omega) (⟨by omega, fun hss => by first | exact (scanP_step (by omega) (by simp [wildBad]; omega) (by first | (simp [charBad]; omega) | simp_all [charBad])).trans (hz hss) | (exfalso; simp_all [strEq]; done)⟩) ⟨rfl, trivial⟩ ⟨rfl, rfl, trivial⟩ ⟨_, rfl⟩
            · 
              refine gseq fun N13 hN13 => ?_
              refine greg ?_
              refine gop (y_move (v := .int _ _) rfl) rfl rfl rfl ?_
              refine gop (y_eql rfl rfl) rfl rfl rfl ?_
              refine gop (y_move (v := .bool _) rfl) rfl rfl rfl ?_
              refine gop_if (want := true) rfl rfl rfl rfl rfl rfl (fun hg29 => ?_) (fun hg29 => ?_)
              · 
                have hg29d := of_decide_eq_true hg29
                refine gop (y_bare (y_move (v := .int _ _) rfl)) rfl rfl rfl ?_
                refine gop_on rfl rfl rfl rfl hg29 ?_
                refine gop (y_bare (y_gtr rfl rfl)) rfl rfl rfl ?_
                refine gop (y_pick_t (v := .bool _) rfl hg29 rfl) rfl rfl rfl ?_
                refine gop (y_move (v := .bool _) rfl) rfl rfl rfl ?_
                refine gop_if (want := true) rfl rfl rfl rfl rfl rfl (fun hg33 => ?_) (fun hg33 => ?_)
                · 
                  have hg33d := of_decide_eq_true hg33
                  refine gop (y_bare (y_move (v := .string _) rfl)) rfl rfl rfl ?_
                  refine gop_on rfl rfl rfl rfl hg33 ?_
                  refine gop (y_bare (y_move (v := .int _ _) rfl)) rfl rfl rfl ?_
                  refine gop_on rfl rfl rfl rfl hg33 ?_
                  refine gop (y_bare (y_sub rfl rfl ⟨by omega, by omega⟩)) rfl rfl rfl ?_
                  refine gop_on rfl rfl rfl rfl hg33 ?_
                  refine gop (y_bare (y_stridx (m := k - 1) Tryd.underlying9 rfl rfl (by omega) (by omega) (by omega))) rfl rfl rfl ?_
                  refine gop_on rfl rfl rfl rfl hg33 ?_
                  refine gop (y_bare (y_eql rfl rfl)) rfl rfl rfl ?_
                  refine gop (y_pick_t (v := .bool _) rfl hg33 rfl) rfl rfl rfl ?_
                  refine gop (y_assign (v := .bool _) rfl) rfl rfl rfl ?_
                  refine gops_nil ?_
                  refine hN13 _ _ ?_
                  refine gfrom [(0, .string _), (4, .int _ _), (16, .int _ _), (17, .int _ _), (26, .bool _)] ⟨rfl, rfl, rfl, rfl, rfl, trivial⟩ fun σ => ?_
                  refine gcond (b := _) rfl (fun hc26 => ?_) (fun hc26 => ?_)
                  · 
                    replace hc26 := of_decide_eq_true hc26
                    refine gseq fun N14 hN14 => ?_
                    refine greg ?_
                    refine gop (y_assign (v := .int _ _) rfl) rfl rfl rfl ?_
                    refine gops_nil ?_
                    refine hN14 _ _ ?_
                    refine gfrom [(2, .int _ _)] ⟨rfl, trivial⟩ fun σ => ?_
                    refine gret fun w1 hM => ?_
                    refine ⟨_, res1 rfl (rt (v := .int _ _) rfl), ?_⟩
                    have hss : strEq s sStars = false := by simp_all [strEq]
                    exact ⟨by rw [show partCode s = 1 by rw [← scanP_wild (s := s) (k := k) (by omega) (by simp [wildBad]; omega), hz hss]; simp_all [partCode, dotty, strEq]]; rfl, hM.low⟩
                  · 
                    replace hc26 := of_decide_eq_false hc26
                    refine gseq fun N15 hN15 => ?_
                    refine greg ?_
                    refine gop (y_move (v := .int _ _) rfl) rfl rfl rfl ?_
                    refine gop (y_neq rfl rfl) rfl rfl rfl ?_
                    refine gop (y_move (v := .bool _) rfl) rfl rfl rfl ?_
                    refine gop_if (want := true) rfl rfl rfl rfl rfl rfl (fun hg43 => ?_) (fun hg43 => ?_)
                    · 
                      have hg43d := of_decide_eq_true hg43
                      refine gop (y_bare (y_move (v := .int _ _) rfl)) rfl rfl rfl ?_
                      refine gop_on rfl rfl rfl rfl hg43 ?_
                      refine gop (y_bare (y_neq rfl rfl)) rfl rfl rfl ?_
                      refine gop (y_pick_t (v := .bool _) rfl hg43 rfl) rfl rfl rfl ?_
                      refine gop (y_move (v := .bool _) rfl) rfl rfl rfl ?_
                      refine gop_if (want := true) rfl rfl rfl rfl rfl rfl (fun hg47 => ?_) (fun hg47 => ?_)
                      · 
                        have hg47d := of_decide_eq_true hg47
                        refine gop (y_bare (y_move (v := .int _ _) rfl)) rfl rfl rfl ?_
                        refine gop_on rfl rfl rfl rfl hg47 ?_
                        refine gop_pure (e_call (vs := [.int _ _]) Tryd.func68 rfl (by kernel_rfl) rfl) (fun w hM => letter_any w _) rfl rfl rfl ?_
                        refine gop_on rfl rfl rfl rfl hg47 ?_
                        refine gop (y_bare (y_not rfl)) rfl rfl rfl ?_
                        refine gop (y_pick_t (v := .bool _) rfl hg47 rfl) rfl rfl rfl ?_
                        refine gop (y_assign (v := .bool _) rfl) rfl rfl rfl ?_
                        refine gops_nil ?_
                        refine hN15 _ _ ?_
                        refine gfrom [(0, .string _), (16, .int _ _), (17, .int _ _), (40, .bool _)] ⟨rfl, rfl, rfl, rfl, trivial⟩ fun σ => ?_
                        refine gcond (b := _) rfl (fun hc40 => ?_) (fun hc40 => ?_)
                        · 
                          replace hc40 := not_t hc40
                          refine gseq fun N16 hN16 => ?_
                          refine greg ?_
                          refine gop (y_assign (v := .int _ _) rfl) rfl rfl rfl ?_
                          refine gops_nil ?_
                          refine hN16 _ _ ?_
                          refine gfrom [(2, .int _ _)] ⟨rfl, trivial⟩ fun σ => ?_
                          refine gret fun w1 hM => ?_
                          refine ⟨_, res1 rfl (rt (v := .int _ _) rfl), ?_⟩
                          have hss : strEq s sStars = false := by simp_all [strEq]
                          exact ⟨by rw [show partCode s = 12 by rw [← scanP_char (s := s) (k := k) (by omega) (by simp [wildBad]; omega) (by first | (simp_all [charBad]; done) | (simp_all [charBad]; omega)), hz hss]; simp_all [partCode, dotty, strEq]]; rfl, hM.low⟩
                        · 
                          replace hc40 := not_f hc40
                          refine gskip ?_
                          refine hN9 _ _ ?_
                          refine gfrom [(0, .string _), (16, .int _ _), (17, .int _ _)] ⟨rfl, rfl, rfl, trivial⟩ fun σ => ?_
                          refine greg ?_
                          refine gop (y_add rfl rfl ⟨by omega, by omega⟩) rfl rfl rfl ?_
                          refine gop (y_move (v := .int _ _) rfl) rfl rfl rfl ?_
                          refine gops_nil ?_
                          refine gnext2 (k + 1) (by omega) (⟨by omega, fun hss => by first | exact (scanP_step (by omega) (by simp [wildBad]; omega) (by first | (simp [charBad]; omega) | simp_all [charBad])).trans (hz hss) | (exfalso; simp_all [strEq]; done)⟩) ⟨rfl, trivial⟩ ⟨rfl, rfl, trivial⟩ ⟨_, rfl⟩
                      · 
                        have hg47d := Decidable.not_not.1 (of_decide_eq_false hg47)
                        refine gop_off rfl rfl rfl rfl hg47 rfl rfl ?_
                        refine gop_off rfl rfl rfl rfl hg47 rfl rfl ?_
                        refine gop (y_pick_f (v := .bool _) rfl hg47 rfl) rfl rfl rfl ?_
                        refine gop (y_assign (v := .bool _) rfl) rfl rfl rfl ?_
                        refine gops_nil ?_
                        refine hN15 _ _ ?_
                        refine gfrom [(0, .string _), (16, .int _ _), (17, .int _ _), (40, .bool _)] ⟨rfl, rfl, rfl, rfl, trivial⟩ fun σ => ?_
                        refine gcond (b := _) rfl (fun hc40 => ?_) (fun hc40 => ?_)
                        · 
                          cases hc40
                        · 
                          refine gskip ?_
                          refine hN9 _ _ ?_
                          refine gfrom [(0, .string _), (16, .int _ _), (17, .int _ _)] ⟨rfl, rfl, rfl, trivial⟩ fun σ => ?_
                          refine greg ?_
                          refine gop (y_add rfl rfl ⟨by omega, by omega⟩) rfl rfl rfl ?_
                          refine gop (y_move (v := .int _ _) rfl) rfl rfl rfl ?_
                          refine gops_nil ?_
                          refine gnext2 (k + 1) (by omega) (⟨by omega, fun hss => by first | exact (scanP_step (by omega) (by simp [wildBad]; omega) (by first | (simp [charBad]; omega) | simp_all [charBad])).trans (hz hss) | (exfalso; simp_all [strEq]; done)⟩) ⟨rfl, trivial⟩ ⟨rfl, rfl, trivial⟩ ⟨_, rfl⟩
                    · 
                      have hg43d := Decidable.not_not.1 (of_decide_eq_false hg43)
                      refine gop_off rfl rfl rfl rfl hg43 rfl rfl ?_
                      refine gop (y_pick_f (v := .bool _) rfl hg43 rfl) rfl rfl rfl ?_
                      refine gop (y_move (v := .bool _) rfl) rfl rfl rfl ?_
                      refine gop_off rfl rfl rfl rfl rfl rfl rfl ?_
                      refine gop_off rfl rfl rfl rfl rfl rfl rfl ?_
                      refine gop_off rfl rfl rfl rfl rfl rfl rfl ?_
                      refine gop (y_pick_f (v := .bool _) rfl rfl rfl) rfl rfl rfl ?_
                      refine gop (y_assign (v := .bool _) rfl) rfl rfl rfl ?_
                      refine gops_nil ?_
                      refine hN15 _ _ ?_
                      refine gfrom [(0, .string _), (16, .int _ _), (17, .int _ _), (40, .bool _)] ⟨rfl, rfl, rfl, rfl, trivial⟩ fun σ => ?_
                      refine gcond (b := _) rfl (fun hc40 => ?_) (fun hc40 => ?_)
                      · 
                        cases hc40
                      · 
                        refine gskip ?_
                        refine hN9 _ _ ?_
                        refine gfrom [(0, .string _), (16, .int _ _), (17, .int _ _)] ⟨rfl, rfl, rfl, trivial⟩ fun σ => ?_
                        refine greg ?_
                        refine gop (y_add rfl rfl ⟨by omega, by omega⟩) rfl rfl rfl ?_
                        refine gop (y_move (v := .int _ _) rfl) rfl rfl rfl ?_
                        refine gops_nil ?_
                        refine gnext2 (k + 1) (by omega) (⟨by omega, fun hss => by first | exact (scanP_step (by omega) (by simp [wildBad]; omega) (by first | (simp [charBad]; omega) | simp_all [charBad])).trans (hz hss) | (exfalso; simp_all [strEq]; done)⟩) ⟨rfl, trivial⟩ ⟨rfl, rfl, trivial⟩ ⟨_, rfl⟩
                · 
                  have hg33d := of_decide_eq_false hg33
                  refine gop_off rfl rfl rfl rfl hg33 rfl rfl ?_
                  refine gop_off rfl rfl rfl rfl hg33 rfl rfl ?_
                  refine gop_off rfl rfl rfl rfl hg33 rfl rfl ?_
                  refine gop_off rfl rfl rfl rfl hg33 rfl rfl ?_
                  refine gop (y_pick_f (v := .bool _) rfl hg33 rfl) rfl rfl rfl ?_
                  refine gop (y_assign (v := .bool _) rfl) rfl rfl rfl ?_
                  refine gops_nil ?_
                  refine hN13 _ _ ?_
                  refine gfrom [(0, .string _), (4, .int _ _), (16, .int _ _), (17, .int _ _), (26, .bool _)] ⟨rfl, rfl, rfl, rfl, rfl, trivial⟩ fun σ => ?_
                  refine gcond (b := _) rfl (fun hc26 => ?_) (fun hc26 => ?_)
                  · 
                    cases hc26
                  · 
                    refine gseq fun N17 hN17 => ?_
                    refine greg ?_
                    refine gop (y_move (v := .int _ _) rfl) rfl rfl rfl ?_
                    refine gop (y_neq rfl rfl) rfl rfl rfl ?_
                    refine gop (y_move (v := .bool _) rfl) rfl rfl rfl ?_
                    refine gop_if (want := true) rfl rfl rfl rfl rfl rfl (fun hg43 => ?_) (fun hg43 => ?_)
                    · 
                      have hg43d := of_decide_eq_true hg43
                      refine gop (y_bare (y_move (v := .int _ _) rfl)) rfl rfl rfl ?_
                      refine gop_on rfl rfl rfl rfl hg43 ?_
                      refine gop (y_bare (y_neq rfl rfl)) rfl rfl rfl ?_
                      refine gop (y_pick_t (v := .bool _) rfl hg43 rfl) rfl rfl rfl ?_
                      refine gop (y_move (v := .bool _) rfl) rfl rfl rfl ?_
                      refine gop_if (want := true) rfl rfl rfl rfl rfl rfl (fun hg47 => ?_) (fun hg47 => ?_)
                      · 
                        have hg47d := of_decide_eq_true hg47
                        refine gop (y_bare (y_move (v := .int _ _) rfl)) rfl rfl rfl ?_
                        refine gop_on rfl rfl rfl rfl hg47 ?_
                        refine gop_pure (e_call (vs := [.int _ _]) Tryd.func68 rfl (by kernel_rfl) rfl) (fun w hM => letter_any w _) rfl rfl rfl ?_
                        refine gop_on rfl rfl rfl rfl hg47 ?_
                        refine gop (y_bare (y_not rfl)) rfl rfl rfl ?_
                        refine gop (y_pick_t (v := .bool _) rfl hg47 rfl) rfl rfl rfl ?_
                        refine gop (y_assign (v := .bool _) rfl) rfl rfl rfl ?_
                        refine gops_nil ?_
                        refine hN17 _ _ ?_
                        refine gfrom [(0, .string _), (16, .int _ _), (17, .int _ _), (40, .bool _)] ⟨rfl, rfl, rfl, rfl, trivial⟩ fun σ => ?_
                        refine gcond (b := _) rfl (fun hc40 => ?_) (fun hc40 => ?_)
                        · 
                          replace hc40 := not_t hc40
                          refine gseq fun N18 hN18 => ?_
                          refine greg ?_
                          refine gop (y_assign (v := .int _ _) rfl) rfl rfl rfl ?_
                          refine gops_nil ?_
                          refine hN18 _ _ ?_
                          refine gfrom [(2, .int _ _)] ⟨rfl, trivial⟩ fun σ => ?_
                          refine gret fun w1 hM => ?_
                          refine ⟨_, res1 rfl (rt (v := .int _ _) rfl), ?_⟩
                          have hss : strEq s sStars = false := by simp_all [strEq]
                          exact ⟨by rw [show partCode s = 12 by rw [← scanP_char (s := s) (k := k) (by omega) (by simp [wildBad]; omega) (by first | (simp_all [charBad]; done) | (simp_all [charBad]; omega)), hz hss]; simp_all [partCode, dotty, strEq]]; rfl, hM.low⟩
                        · 
                          replace hc40 := not_f hc40
                          refine gskip ?_
                          refine hN9 _ _ ?_
                          refine gfrom [(0, .string _), (16, .int _ _), (17, .int _ _)] ⟨rfl, rfl, rfl, trivial⟩ fun σ => ?_
                          refine greg ?_
                          refine gop (y_add rfl rfl ⟨by omega, by omega⟩) rfl rfl rfl ?_
                          refine gop (y_move (v := .int _ _) rfl) rfl rfl rfl ?_
                          refine gops_nil ?_
                          refine gnext2 (k + 1) (by omega) (⟨by omega, fun hss => by first | exact (scanP_step (by omega) (by simp [wildBad]; omega) (by first | (simp [charBad]; omega) | simp_all [charBad])).trans (hz hss) | (exfalso; simp_all [strEq]; done)⟩) ⟨rfl, trivial⟩ ⟨rfl, rfl, trivial⟩ ⟨_, rfl⟩
                      · 
                        have hg47d := Decidable.not_not.1 (of_decide_eq_false hg47)
                        refine gop_off rfl rfl rfl rfl hg47 rfl rfl ?_
                        refine gop_off rfl rfl rfl rfl hg47 rfl rfl ?_
                        refine gop (y_pick_f (v := .bool _) rfl hg47 rfl) rfl rfl rfl ?_
                        refine gop (y_assign (v := .bool _) rfl) rfl rfl rfl ?_
                        refine gops_nil ?_
                        refine hN17 _ _ ?_
                        refine gfrom [(0, .string _), (16, .int _ _), (17, .int _ _), (40, .bool _)] ⟨rfl, rfl, rfl, rfl, trivial⟩ fun σ => ?_
                        refine gcond (b := _) rfl (fun hc40 => ?_) (fun hc40 => ?_)
                        · 
                          cases hc40
                        · 
                          refine gskip ?_
                          refine hN9 _ _ ?_
                          refine gfrom [(0, .string _), (16, .int _ _), (17, .int _ _)] ⟨rfl, rfl, rfl, trivial⟩ fun σ => ?_
                          refine greg ?_
                          refine gop (y_add rfl rfl ⟨by omega, by omega⟩) rfl rfl rfl ?_
                          refine gop (y_move (v := .int _ _) rfl) rfl rfl rfl ?_
                          refine gops_nil ?_
                          refine gnext2 (k + 1) (by omega) (⟨by omega, fun hss => by first | exact (scanP_step (by omega) (by simp [wildBad]; omega) (by first | (simp [charBad]; omega) | simp_all [charBad])).trans (hz hss) | (exfalso; simp_all [strEq]; done)⟩) ⟨rfl, trivial⟩ ⟨rfl, rfl, trivial⟩ ⟨_, rfl⟩
                    · 
                      have hg43d := Decidable.not_not.1 (of_decide_eq_false hg43)
                      refine gop_off rfl rfl rfl rfl hg43 rfl rfl ?_
                      refine gop (y_pick_f (v := .bool _) rfl hg43 rfl) rfl rfl rfl ?_
                      refine gop (y_move (v := .bool _) rfl) rfl rfl rfl ?_
                      refine gop_off rfl rfl rfl rfl rfl rfl rfl ?_
                      refine gop_off rfl rfl rfl rfl rfl rfl rfl ?_
                      refine gop_off rfl rfl rfl rfl rfl rfl rfl ?_
                      refine gop (y_pick_f (v := .bool _) rfl rfl rfl) rfl rfl rfl ?_
                      refine gop (y_assign (v := .bool _) rfl) rfl rfl rfl ?_
                      refine gops_nil ?_
                      refine hN17 _ _ ?_
                      refine gfrom [(0, .string _), (16, .int _ _), (17, .int _ _), (40, .bool _)] ⟨rfl, rfl, rfl, rfl, trivial⟩ fun σ => ?_
                      refine gcond (b := _) rfl (fun hc40 => ?_) (fun hc40 => ?_)
                      · 
                        cases hc40
                      · 
                        refine gskip ?_
                        refine hN9 _ _ ?_
                        refine gfrom [(0, .string _), (16, .int _ _), (17, .int _ _)] ⟨rfl, rfl, rfl, trivial⟩ fun σ => ?_
                        refine greg ?_
                        refine gop (y_add rfl rfl ⟨by omega, by omega⟩) rfl rfl rfl ?_
                        refine gop (y_move (v := .int _ _) rfl) rfl rfl rfl ?_
                        refine gops_nil ?_
                        refine gnext2 (k + 1) (by omega) (⟨by omega, fun hss => by first | exact (scanP_step (by omega) (by simp [wildBad]; omega) (by first | (simp [charBad]; omega) | simp_all [charBad])).trans (hz hss) | (exfalso; simp_all [strEq]; done)⟩) ⟨rfl, trivial⟩ ⟨rfl, rfl, trivial⟩ ⟨_, rfl⟩
              · 
                have hg29d := of_decide_eq_false hg29
                refine gop_off rfl rfl rfl rfl hg29 rfl rfl ?_
                refine gop (y_pick_f (v := .bool _) rfl hg29 rfl) rfl rfl rfl ?_
                refine gop (y_move (v := .bool _) rfl) rfl rfl rfl ?_
                refine gop_off rfl rfl rfl rfl rfl rfl rfl ?_
                refine gop_off rfl rfl rfl rfl rfl rfl rfl ?_
                refine gop_off rfl rfl rfl rfl rfl rfl rfl ?_
                refine gop_off rfl rfl rfl rfl rfl rfl rfl ?_
                refine gop_off rfl rfl rfl rfl rfl rfl rfl ?_
                refine gop (y_pick_f (v := .bool _) rfl rfl rfl) rfl rfl rfl ?_
                refine gop (y_assign (v := .bool _) rfl) rfl rfl rfl ?_
                refine gops_nil ?_
                refine hN13 _ _ ?_
                refine gfrom [(0, .string _), (4, .int _ _), (16, .int _ _), (17, .int _ _), (26, .bool _)] ⟨rfl, rfl, rfl, rfl, rfl, trivial⟩ fun σ => ?_
                refine gcond (b := _) rfl (fun hc26 => ?_) (fun hc26 => ?_)
                · 
                  cases hc26
                · 
                  refine gseq fun N19 hN19 => ?_
                  refine greg ?_
                  refine gop (y_move (v := .int _ _) rfl) rfl rfl rfl ?_
                  refine gop (y_neq rfl rfl) rfl rfl rfl ?_
                  refine gop (y_move (v := .bool _) rfl) rfl rfl rfl ?_
                  refine gop_if (want := true) rfl rfl rfl rfl rfl rfl (fun hg43 => ?_) (fun hg43 => ?_)
                  · 
                    have hg43d := of_decide_eq_true hg43
                    refine gop (y_bare (y_move (v := .int _ _) rfl)) rfl rfl rfl ?_
                    refine gop_on rfl rfl rfl rfl hg43 ?_
                    refine gop (y_bare (y_neq rfl rfl)) rfl rfl rfl ?_
                    refine gop (y_pick_t (v := .bool _) rfl hg43 rfl) rfl rfl rfl ?_
                    refine gop (y_move (v := .bool _) rfl) rfl rfl rfl ?_
                    refine gop_if (want := true) rfl rfl rfl rfl rfl rfl (fun hg47 => ?_) (fun hg47 => ?_)
                    · 
                      have hg47d := of_decide_eq_true hg47
                      refine gop (y_bare (y_move (v := .int _ _) rfl)) rfl rfl rfl ?_
                      refine gop_on rfl rfl rfl rfl hg47 ?_
                      refine gop_pure (e_call (vs := [.int _ _]) Tryd.func68 rfl (by kernel_rfl) rfl) (fun w hM => letter_any w _) rfl rfl rfl ?_
                      refine gop_on rfl rfl rfl rfl hg47 ?_
                      refine gop (y_bare (y_not rfl)) rfl rfl rfl ?_
                      refine gop (y_pick_t (v := .bool _) rfl hg47 rfl) rfl rfl rfl ?_
                      refine gop (y_assign (v := .bool _) rfl) rfl rfl rfl ?_
                      refine gops_nil ?_
                      refine hN19 _ _ ?_
                      refine gfrom [(0, .string _), (16, .int _ _), (17, .int _ _), (40, .bool _)] ⟨rfl, rfl, rfl, rfl, trivial⟩ fun σ => ?_
                      refine gcond (b := _) rfl (fun hc40 => ?_) (fun hc40 => ?_)
                      · 
                        replace hc40 := not_t hc40
                        refine gseq fun N20 hN20 => ?_
                        refine greg ?_
                        refine gop (y_assign (v := .int _ _) rfl) rfl rfl rfl ?_
                        refine gops_nil ?_
                        refine hN20 _ _ ?_
                        refine gfrom [(2, .int _ _)] ⟨rfl, trivial⟩ fun σ => ?_
                        refine gret fun w1 hM => ?_
                        refine ⟨_, res1 rfl (rt (v := .int _ _) rfl), ?_⟩
                        have hss : strEq s sStars = false := by simp_all [strEq]
                        exact ⟨by rw [show partCode s = 12 by rw [← scanP_char (s := s) (k := k) (by omega) (by simp [wildBad]; omega) (by first | (simp_all [charBad]; done) | (simp_all [charBad]; omega)), hz hss]; simp_all [partCode, dotty, strEq]]; rfl, hM.low⟩
                      · 
                        replace hc40 := not_f hc40
                        refine gskip ?_
                        refine hN9 _ _ ?_
                        refine gfrom [(0, .string _), (16, .int _ _), (17, .int _ _)] ⟨rfl, rfl, rfl, trivial⟩ fun σ => ?_
                        refine greg ?_
                        refine gop (y_add rfl rfl ⟨by omega, by omega⟩) rfl rfl rfl ?_
                        refine gop (y_move (v := .int _ _) rfl) rfl rfl rfl ?_
                        refine gops_nil ?_
                        refine gnext2 (k + 1) (by omega) (⟨by omega, fun hss => by first | exact (scanP_step (by omega) (by simp [wildBad]; omega) (by first | (simp [charBad]; omega) | simp_all [charBad])).trans (hz hss) | (exfalso; simp_all [strEq]; done)⟩) ⟨rfl, trivial⟩ ⟨rfl, rfl, trivial⟩ ⟨_, rfl⟩
                    · 
                      have hg47d := Decidable.not_not.1 (of_decide_eq_false hg47)
                      refine gop_off rfl rfl rfl rfl hg47 rfl rfl ?_
                      refine gop_off rfl rfl rfl rfl hg47 rfl rfl ?_
                      refine gop (y_pick_f (v := .bool _) rfl hg47 rfl) rfl rfl rfl ?_
                      refine gop (y_assign (v := .bool _) rfl) rfl rfl rfl ?_
                      refine gops_nil ?_
                      refine hN19 _ _ ?_
                      refine gfrom [(0, .string _), (16, .int _ _), (17, .int _ _), (40, .bool _)] ⟨rfl, rfl, rfl, rfl, trivial⟩ fun σ => ?_
                      refine gcond (b := _) rfl (fun hc40 => ?_) (fun hc40 => ?_)
                      · 
                        cases hc40
                      · 
                        refine gskip ?_
                        refine hN9 _ _ ?_
                        refine gfrom [(0, .string _), (16, .int _ _), (17, .int _ _)] ⟨rfl, rfl, rfl, trivial⟩ fun σ => ?_
                        refine greg ?_
                        refine gop (y_add rfl rfl ⟨by omega, by omega⟩) rfl rfl rfl ?_
                        refine gop (y_move (v := .int _ _) rfl) rfl rfl rfl ?_
                        refine gops_nil ?_
                        refine gnext2 (k + 1) (by omega) (⟨by omega, fun hss => by first | exact (scanP_step (by omega) (by simp [wildBad]; omega) (by first | (simp [charBad]; omega) | simp_all [charBad])).trans (hz hss) | (exfalso; simp_all [strEq]; done)⟩) ⟨rfl, trivial⟩ ⟨rfl, rfl, trivial⟩ ⟨_, rfl⟩
                  · 
                    have hg43d := Decidable.not_not.1 (of_decide_eq_false hg43)
                    refine gop_off rfl rfl rfl rfl hg43 rfl rfl ?_
                    refine gop (y_pick_f (v := .bool _) rfl hg43 rfl) rfl rfl rfl ?_
                    refine gop (y_move (v := .bool _) rfl) rfl rfl rfl ?_
                    refine gop_off rfl rfl rfl rfl rfl rfl rfl ?_
                    refine gop_off rfl rfl rfl rfl rfl rfl rfl ?_
                    refine gop_off rfl rfl rfl rfl rfl rfl rfl ?_
                    refine gop (y_pick_f (v := .bool _) rfl rfl rfl) rfl rfl rfl ?_
                    refine gop (y_assign (v := .bool _) rfl) rfl rfl rfl ?_
                    refine gops_nil ?_
                    refine hN19 _ _ ?_
                    refine gfrom [(0, .string _), (16, .int _ _), (17, .int _ _), (40, .bool _)] ⟨rfl, rfl, rfl, rfl, trivial⟩ fun σ => ?_
                    refine gcond (b := _) rfl (fun hc40 => ?_) (fun hc40 => ?_)
                    · 
                      cases hc40
                    · 
                      refine gskip ?_
                      refine hN9 _ _ ?_
                      refine gfrom [(0, .string _), (16, .int _ _), (17, .int _ _)] ⟨rfl, rfl, rfl, trivial⟩ fun σ => ?_
                      refine greg ?_
                      refine gop (y_add rfl rfl ⟨by omega, by omega⟩) rfl rfl rfl ?_
                      refine gop (y_move (v := .int _ _) rfl) rfl rfl rfl ?_
                      refine gops_nil ?_
                      refine gnext2 (k + 1) (by omega) (⟨by omega, fun hss => by first | exact (scanP_step (by omega) (by simp [wildBad]; omega) (by first | (simp [charBad]; omega) | simp_all [charBad])).trans (hz hss) | (exfalso; simp_all [strEq]; done)⟩) ⟨rfl, trivial⟩ ⟨rfl, rfl, trivial⟩ ⟨_, rfl⟩
          · 
            replace hc18 := of_decide_eq_false hc18
            refine gexit ?_
            refine hN5 _ _ ?_
            refine gfrom [] trivial fun σ => ?_
            refine gseq fun N21 hN21 => ?_
            refine greg ?_
            refine gop (y_assign (v := .int _ _) rfl) rfl rfl rfl ?_
            refine gops_nil ?_
            refine hN21 _ _ ?_
            refine gfrom [(2, .int _ _)] ⟨rfl, trivial⟩ fun σ => ?_
            refine gret fun w1 hM => ?_
            refine ⟨_, res1 rfl (rt (v := .int _ _) rfl), ?_⟩
            have hke : k = s.size := by omega
            subst hke
            exact ⟨by rw [show partCode s = 0 by rw [scanP_end] at hz; by_cases hss : strEq s sStars = true; simp_all [partCode, dotty, strEq]; have hz2 := hz (by simpa using hss); simp_all [partCode, dotty, strEq]]; rfl, hM.low⟩
    · 
      have hg11d := hg11
      refine gop_off rfl rfl rfl rfl hg11 rfl rfl ?_
      refine gop (y_pick_t (v := .bool _) rfl hg11 rfl) rfl rfl rfl ?_
      refine gops_nil ?_
      refine hN3 _ _ ?_
      refine gfrom [(0, .string _), (14, .bool _)] ⟨rfl, rfl, trivial⟩ fun σ => ?_
      refine gcond (b := _) rfl (fun hc14 => ?_) (fun hc14 => ?_)
      · 
        refine gseq fun N22 hN22 => ?_
        refine greg ?_
        refine gop (y_assign (v := .int _ _) rfl) rfl rfl rfl ?_
        refine gops_nil ?_
        refine hN22 _ _ ?_
        refine gfrom [(2, .int _ _)] ⟨rfl, trivial⟩ fun σ => ?_
        refine gret fun w1 hM => ?_
        refine ⟨_, res1 rfl (rt (v := .int _ _) rfl), ?_⟩
        exact ⟨by rw [show partCode s = 12 by simp_all [partCode, dotty, strEq]]; rfl, hM.low⟩
      · 
        cases hc14
  · 
    have hg7d := hg7
    refine gop_off rfl rfl rfl rfl hg7 rfl rfl ?_
    refine gop (y_pick_t (v := .bool _) rfl hg7 rfl) rfl rfl rfl ?_
    refine gop (y_move (v := .bool _) rfl) rfl rfl rfl ?_
    refine gop_off rfl rfl rfl rfl rfl rfl rfl ?_
    refine gop_off rfl rfl rfl rfl rfl rfl rfl ?_
    refine gop (y_pick_t (v := .bool _) rfl rfl rfl) rfl rfl rfl ?_
    refine gops_nil ?_
    refine hN3 _ _ ?_
    refine gfrom [(0, .string _), (14, .bool _)] ⟨rfl, rfl, trivial⟩ fun σ => ?_
    refine gcond (b := _) rfl (fun hc14 => ?_) (fun hc14 => ?_)
    · 
      refine gseq fun N23 hN23 => ?_
      refine greg ?_
      refine gop (y_assign (v := .int _ _) rfl) rfl rfl rfl ?_
      refine gops_nil ?_
      refine hN23 _ _ ?_
      refine gfrom [(2, .int _ _)] ⟨rfl, trivial⟩ fun σ => ?_
      refine gret fun w1 hM => ?_
      refine ⟨_, res1 rfl (rt (v := .int _ _) rfl), ?_⟩
      exact ⟨by rw [show partCode s = 12 by simp_all [partCode, dotty, strEq]]; rfl, hM.low⟩
    · 
      cases hc14
end Go.Proofs.YtijpaljdclhehaaDoor
namespace Go.Proofs.YtijpaljdclhehaaDoor
open Go.RowKit Go.Cf
set_option maxRecDepth 10000
set_option maxHeartbeats 1000000 in
theorem sIndexByte_any (w : World) (s : ByteArray) (c : Int) : Calls Tryd.prog 78 #[.string s, .int .u8 c] w fun e w' => e = .returned (.int .i64 (Lib.indexByte s.data.toList c.toNat.toUInt8)) ∧ Below w.heap.size w w' := by
  refine gcalls Tryd.func78 rfl Tryd.ntmps78 (Nat.le_of_ble_eq_true rfl) ?_
  refine gfrom [(0, .string _), (1, .int _ _)] ⟨rfl, rfl, trivial⟩ fun σ => ?_
  refine gseq fun N1 hN1 => ?_
  refine greg ?_
  refine gop (y_assign (v := .int _ _) rfl) rfl rfl rfl ?_
  refine gops_nil ?_
  refine hN1 _ _ ?_
  refine gfrom [(0, .string _), (1, .int _ _)] ⟨rfl, rfl, trivial⟩ fun σ => ?_
  refine gseq fun N2 hN2 => ?_
  refine greg ?_
  refine gop (y_move (v := .string _) rfl) rfl rfl rfl ?_
  refine gop (y_move (v := .int _ _) rfl) rfl rfl rfl ?_
  refine gop (y_extern (vs := [.string _, .int _ _]) Tryd.func95 (by kernel_rfl) (by kernel_rfl) (by kernel_rfl) (e := Extern.BytealgIndexByte.indexByte) (by kernel_rfl) rfl (fun w => Lib.run_indexByteString _ _ w)) rfl rfl rfl ?_
  refine gop (y_assign (v := .int _ _) rfl) rfl rfl rfl ?_
  refine gops_nil ?_
  refine hN2 _ _ ?_
  refine gfrom [(4, .int _ _)] ⟨rfl, trivial⟩ fun σ => ?_
  refine gret fun w1 hM => ?_
  refine ⟨_, res1 rfl (rt (v := .int _ _) rfl), ?_⟩
  exact ⟨rfl, hM.low⟩
set_option maxHeartbeats 1000000 in
theorem sCount_any (w : World) (s : ByteArray) : Calls Tryd.prog 89 #[.string s, .string ⟨#[47]⟩] w fun e w' => e = .returned (.int .i64 (slashes s : Nat)) ∧ Below w.heap.size w w' := by
  refine gcalls Tryd.func89 rfl Tryd.ntmps89 (Nat.le_of_ble_eq_true rfl) ?_
  refine gfrom [(0, .string _), (1, .string _)] ⟨rfl, rfl, trivial⟩ fun σ => ?_
  refine gseq fun N1 hN1 => ?_
  refine greg ?_
  refine gop (y_assign (v := .int _ _) rfl) rfl rfl rfl ?_
  refine gops_nil ?_
  refine hN1 _ _ ?_
  refine gfrom [(0, .string _), (1, .string _)] ⟨rfl, rfl, trivial⟩ fun σ => ?_
  refine gseq fun N2 hN2 => ?_
  refine gseq fun N3 hN3 => ?_
  refine greg ?_
  refine gop (y_move (v := .string _) rfl) rfl rfl rfl ?_
  refine gop (y_lens Tryd.underlying9 rfl) rfl rfl rfl ?_
  refine gop (y_eql rfl rfl) rfl rfl rfl ?_
  refine gops_nil ?_
  refine hN3 _ _ ?_
  refine gfrom [(0, .string _), (1, .string _), (9, .bool _)] ⟨rfl, rfl, rfl, trivial⟩ fun σ => ?_
  refine gcond (b := _) rfl (fun hc9 => ?_) (fun hc9 => ?_)
  · 
     exact absurd hc9 (by decide)
  · 
    replace hc9 := of_decide_eq_false hc9
    refine gskip ?_
    refine hN2 _ _ ?_
    refine gfrom [(0, .string _), (1, .string _)] ⟨rfl, rfl, trivial⟩ fun σ => ?_
    refine gseq fun N4 hN4 => ?_
    refine gseq fun N5 hN5 => ?_
    refine greg ?_
    refine gop (y_move (v := .string _) rfl) rfl rfl rfl ?_
    refine gop (y_lens Tryd.underlying9 rfl) rfl rfl rfl ?_
    refine gop (y_eql rfl rfl) rfl rfl rfl ?_
    refine gops_nil ?_
    refine hN5 _ _ ?_
    refine gfrom [(0, .string _), (1, .string _), (15, .bool _)] ⟨rfl, rfl, rfl, trivial⟩ fun σ => ?_
    refine gcond (b := _) rfl (fun hc15 => ?_) (fun hc15 => ?_)
    · 
      replace hc15 := of_decide_eq_true hc15
      refine gseq fun N6 hN6 => ?_
      refine greg ?_
      refine gop (y_move (v := .string _) rfl) rfl rfl rfl ?_
      refine gop (y_move (v := .string _) rfl) rfl rfl rfl ?_
      refine gop (y_stridx (m := 0) Tryd.underlying9 rfl rfl (by omega) (by omega) (by omega)) rfl rfl rfl ?_
      refine gop (y_extern (vs := [.string _, .int _ _]) Tryd.func107 (by kernel_rfl) (by kernel_rfl) (by kernel_rfl) (e := Extern.BytealgCount.count) (by kernel_rfl) rfl (fun w => Lib.run_countString _ _ w)) rfl rfl rfl ?_
      refine gop (y_assign (v := .int _ _) rfl) rfl rfl rfl ?_
      refine gops_nil ?_
      refine hN6 _ _ ?_
      refine gfrom [(4, .int _ _)] ⟨rfl, trivial⟩ fun σ => ?_
      refine gret fun w1 hM => ?_
      refine ⟨_, res1 rfl (rt (v := .int _ _) rfl), ?_⟩
      exact ⟨rfl, hM.low⟩
    · 
       exact absurd hc15 (by decide)
set_option maxHeartbeats 1000000 in
theorem slIndex_any (w : World) (s : ByteArray) : Calls Tryd.prog 108 #[.string s, .string ⟨#[47]⟩] w fun e w' => e = .returned (.int .i64 (Lib.indexByte s.data.toList 47)) ∧ Below w.heap.size w w' := by
  refine gcalls Tryd.func108 rfl Tryd.ntmps108 (Nat.le_of_ble_eq_true rfl) ?_
  refine gfrom [(0, .string _), (1, .string _)] ⟨rfl, rfl, trivial⟩ fun σ => ?_
  refine gseq fun N1 hN1 => ?_
  refine greg ?_
  refine gop (y_assign (v := .int _ _) rfl) rfl rfl rfl ?_
  refine gops_nil ?_
  refine hN1 _ _ ?_
  refine gfrom [(0, .string _), (1, .string _)] ⟨rfl, rfl, trivial⟩ fun σ => ?_
  refine gseq fun N2 hN2 => ?_
  refine greg ?_
  refine gop (y_move (v := .string _) rfl) rfl rfl rfl ?_
  refine gop (y_lens Tryd.underlying9 rfl) rfl rfl rfl ?_
  refine gop (y_assign (v := .int _ _) rfl) rfl rfl rfl ?_
  refine gops_nil ?_
  refine hN2 _ _ ?_
  refine gfrom [(0, .string _), (1, .string _), (5, .int _ _)] ⟨rfl, rfl, rfl, trivial⟩ fun σ => ?_
  refine gseq fun N3 hN3 => ?_
  refine gblock ?_
  refine gseq fun N4 hN4 => ?_
  refine greg ?_
  refine gop (y_move (v := .int _ _) rfl) rfl rfl rfl ?_
  refine gop (y_eql rfl rfl) rfl rfl rfl ?_
  refine gop (y_move (v := .bool _) rfl) rfl rfl rfl ?_
  refine gop_if (want := false) rfl rfl rfl rfl rfl rfl (fun hg19 => ?_) (fun hg19 => ?_)
  · 
    have hg19d := of_decide_eq_false hg19
    refine gop (y_bare (y_move (v := .string _) rfl)) rfl rfl rfl ?_
    refine gop_on rfl rfl rfl rfl hg19 ?_
    refine gop (y_bare (y_move (v := .string _) rfl)) rfl rfl rfl ?_
    refine gop_on rfl rfl rfl rfl hg19 ?_
    refine gop (y_bare (y_eqls rfl rfl)) rfl rfl rfl ?_
    refine gop (y_pick_f (v := .bool _) rfl hg19 rfl) rfl rfl rfl ?_
    refine gop (y_assign (v := .bool _) rfl) rfl rfl rfl ?_
    refine gops_nil ?_
    refine hN4 _ _ ?_
    refine gfrom [(0, .string _), (1, .string _), (5, .int _ _), (16, .bool _)] ⟨rfl, rfl, rfl, rfl, trivial⟩ fun σ => ?_
    refine gcond (b := _) rfl (fun hc16 => ?_) (fun hc16 => ?_)
    · 
      refine gseq fun N5 hN5 => ?_
      refine greg ?_
      refine gop (y_assign (v := .int _ _) rfl) rfl rfl rfl ?_
      refine gops_nil ?_
      refine hN5 _ _ ?_
      refine gfrom [(4, .int _ _)] ⟨rfl, trivial⟩ fun σ => ?_
      refine gret fun w1 hM => ?_
      refine ⟨_, res1 rfl (rt (v := .int _ _) rfl), ?_⟩
      exact ⟨by rw [← ByteArray.toList_eq, ← show _ = s.toList by simpa using hc16]; rfl, hM.low⟩
    · 
      refine gseq fun N6 hN6 => ?_
      refine greg ?_
      refine gop (y_move (v := .int _ _) rfl) rfl rfl rfl ?_
      refine gop (y_eql rfl rfl) rfl rfl rfl ?_
      refine gop (y_assign (v := .bool _) rfl) rfl rfl rfl ?_
      refine gops_nil ?_
      refine hN6 _ _ ?_
      refine gfrom [(0, .string _), (1, .string _), (5, .int _ _), (24, .bool _)] ⟨rfl, rfl, rfl, rfl, trivial⟩ fun σ => ?_
      refine gcond (b := _) rfl (fun hc24 => ?_) (fun hc24 => ?_)
      · 
        replace hc24 := of_decide_eq_true hc24
        refine gseq fun N7 hN7 => ?_
        refine greg ?_
        refine gop (y_move (v := .string _) rfl) rfl rfl rfl ?_
        refine gop (y_move (v := .string _) rfl) rfl rfl rfl ?_
        refine gop (y_stridx (m := 0) Tryd.underlying9 rfl rfl (by omega) (by omega) (by omega)) rfl rfl rfl ?_
        refine gop_pure (e_call (vs := [.string _, .int _ _]) Tryd.func78 rfl (by kernel_rfl) rfl) (fun w hM => sIndexByte_any w _ _) rfl rfl rfl ?_
        refine gop (y_assign (v := .int _ _) rfl) rfl rfl rfl ?_
        refine gops_nil ?_
        refine hN7 _ _ ?_
        refine gfrom [(4, .int _ _)] ⟨rfl, trivial⟩ fun σ => ?_
        refine gret fun w1 hM => ?_
        refine ⟨_, res1 rfl (rt (v := .int _ _) rfl), ?_⟩
        exact ⟨rfl, hM.low⟩
      · 
         exact absurd hc24 (by decide)
  · 
     exact absurd hg19 (by decide)
set_option maxHeartbeats 1000000 in
theorem sIndex_any (w : World) (s : ByteArray) : Calls Tryd.prog 90 #[.string s, .string ⟨#[47]⟩] w fun e w' => e = .returned (.int .i64 (Lib.indexByte s.data.toList 47)) ∧ Below w.heap.size w w' := by
  refine gcalls Tryd.func90 rfl Tryd.ntmps90 (Nat.le_of_ble_eq_true rfl) ?_
  refine gfrom [(0, .string _), (1, .string _)] ⟨rfl, rfl, trivial⟩ fun σ => ?_
  refine gseq fun N1 hN1 => ?_
  refine greg ?_
  refine gop (y_assign (v := .int _ _) rfl) rfl rfl rfl ?_
  refine gops_nil ?_
  refine hN1 _ _ ?_
  refine gfrom [(0, .string _), (1, .string _)] ⟨rfl, rfl, trivial⟩ fun σ => ?_
  refine gseq fun N2 hN2 => ?_
  refine greg ?_
  refine gop (y_move (v := .string _) rfl) rfl rfl rfl ?_
  refine gop (y_move (v := .string _) rfl) rfl rfl rfl ?_
  refine gop_pure (e_call (vs := [.string _, .string _]) Tryd.func108 rfl (by kernel_rfl) rfl) (fun w hM => slIndex_any w _) rfl rfl rfl ?_
  refine gop (y_assign (v := .int _ _) rfl) rfl rfl rfl ?_
  refine gops_nil ?_
  refine hN2 _ _ ?_
  refine gfrom [(4, .int _ _)] ⟨rfl, trivial⟩ fun σ => ?_
  refine gret fun w1 hM => ?_
  refine ⟨_, res1 rfl (rt (v := .int _ _) rfl), ?_⟩
  exact ⟨rfl, hM.low⟩
end Go.Proofs.YtijpaljdclhehaaDoor
