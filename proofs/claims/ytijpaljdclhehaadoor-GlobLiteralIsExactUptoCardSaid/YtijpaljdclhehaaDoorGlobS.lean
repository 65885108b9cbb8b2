/- Patterns: the plain laws. Program independent. -/
import Derived.Test.YtijpaljdclhehaaDoorGlobP
namespace Go.Cf
open Go.RowKit
/-- the first i characters of a part match the first k of a name -/
inductive Pm (p s : ByteArray) : Nat → Nat → Prop
  | start : Pm p s 0 0
  | star {i k : Nat} : Pm p s i k → i < p.size → byteAt p i = 42 → Pm p s (i + 1) k
  | eat {i k : Nat} : Pm p s i k → i < p.size → k < s.size → byteAt p i = 42 → Pm p s i (k + 1)
  | char {i k : Nat} : Pm p s i k → i < p.size → k < s.size → byteAt p i ≠ 42 → (byteAt p i = 63 ∨ byteAt p i = byteAt s k) → Pm p s (i + 1) (k + 1)
section
variable {p s : ByteArray}
theorem get_set_true {l : List Bool} {a i : Nat} (h : (l.set a true)[i]? = some true) : i = a ∨ l[i]? = some true := by
  rw [List.getElem?_set] at h
  split at h
  · rename_i e; exact .inl e.symm
  · exact .inr h
theorem set_true_get {l : List Bool} {a i : Nat} (h : l[i]? = some true) : (l.set a true)[i]? = some true := by
  rw [List.getElem?_set]
  split
  · rename_i e; subst e
    have := (List.getElem?_eq_some_iff.1 h).1
    rw [if_pos this]
  · exact h
theorem set_true_self {l : List Bool} {a : Nat} (h : a < l.length) : (l.set a true)[a]? = some true := by
  rw [List.getElem?_set_self h]
theorem stars_sound {l : List Bool} {k : Nat} (h : ∀ i, l[i]? = some true → Pm p s i k) : ∀ m, m ≤ p.size → ∀ i, (starsTo p l m)[i]? = some true → Pm p s i k
  | 0, _, i, hi => h i hi
  | m + 1, hm, i, hi => by
    rw [starsTo] at hi
    split at hi
    · rename_i hc
      rcases get_set_true hi with rfl | hi
      · exact .star (stars_sound h m (by omega) m hc.2) (by omega) hc.1
      · exact stars_sound h m (by omega) i hi
    · exact stars_sound h m (by omega) i hi
theorem next_sound {l : List Bool} {k : Nat} (hk : k < s.size) (h : ∀ i, l[i]? = some true → Pm p s i k) : ∀ m, m ≤ p.size → ∀ i, (nextTo p (byteAt s k) l m)[i]? = some true → Pm p s i (k + 1)
  | 0, _, i, hi => by
    rw [nextTo, List.getElem?_replicate] at hi
    split at hi <;> cases hi
  | m + 1, hm, i, hi => by
    rw [nextTo] at hi
    have ih := next_sound hk h m (by omega)
    split at hi
    · rename_i hl
      split at hi
      · rename_i hc
        rcases get_set_true hi with rfl | hi
        · exact .eat (h _ hl) (by omega) hk hc
        · exact ih i hi
      · rename_i hc
        split at hi
        · rename_i hd
          rcases get_set_true hi with rfl | hi
          · exact .char (h _ hl) (by omega) hk hc hd
          · exact ih i hi
        · exact ih i hi
    · exact ih i hi
theorem run_sound : ∀ k, k ≤ s.size → ∀ i, (nameRun p s k)[i]? = some true → Pm p s i k
  | 0, _, i, hi => by
    refine stars_sound (fun j hj => ?_) p.size (Nat.le_refl _) i hi
    cases j with
    | zero => exact .start
    | succ j => rw [List.getElem?_cons_succ, List.getElem?_replicate] at hj; split at hj <;> cases hj
  | k + 1, hk, i, hi => stars_sound (next_sound (by omega) (run_sound k (by omega)) p.size (Nat.le_refl _)) p.size (Nat.le_refl _) i hi
theorem stars_mono {l : List Bool} {i : Nat} (h : l[i]? = some true) : ∀ m, (starsTo p l m)[i]? = some true
  | 0 => h
  | m + 1 => by
    rw [starsTo]
    split
    · exact set_true_get (stars_mono h m)
    · exact stars_mono h m
theorem stars_keep {l : List Bool} {i m n : Nat} (hmn : m ≤ n) (h : (starsTo p l m)[i]? = some true) : (starsTo p l n)[i]? = some true := by
  induction n with
  | zero => obtain rfl : m = 0 := by omega
            exact h
  | succ n ih =>
    rcases Nat.lt_or_ge n m with h1 | h1
    · obtain rfl : m = n + 1 := by omega
      exact h
    · rw [starsTo]
      split
      · exact set_true_get (ih h1)
      · exact ih h1
theorem stars_back {l : List Bool} {i : Nat} : ∀ n, i < n → (starsTo p l n)[i]? = some true → (starsTo p l i)[i]? = some true
  | 0, h, _ => by omega
  | n + 1, h, hn => by
    rw [starsTo] at hn
    have key : (starsTo p l n)[i]? = some true := by
      split at hn
      · rcases get_set_true hn with e | e
        · omega
        · exact e
      · exact hn
    rcases Nat.lt_or_ge i n with h1 | h1
    · exact stars_back n h1 key
    · obtain rfl : i = n := by omega
      exact key
theorem stars_close {l : List Bool} {i : Nat} (hl : l.length = p.size + 1) (hi : i < p.size) (hc : byteAt p i = 42) (h : (starsTo p l p.size)[i]? = some true) : (starsTo p l p.size)[i + 1]? = some true := by
  have h1 := stars_back p.size hi h
  refine stars_keep (m := i + 1) hi ?_
  rw [starsTo, if_pos ⟨hc, h1⟩]
  exact set_true_self (by rw [starsTo_len]; omega)
theorem next_keep {l : List Bool} {c i m n : Nat} (hmn : m ≤ n) (h : (nextTo p c l m)[i]? = some true) : (nextTo p c l n)[i]? = some true := by
  induction n with
  | zero => obtain rfl : m = 0 := by omega
            exact h
  | succ n ih =>
    rcases Nat.lt_or_ge n m with h1 | h1
    · obtain rfl : m = n + 1 := by omega
      exact h
    · rw [nextTo]
      (repeat' split) <;> first | exact set_true_get (ih h1) | exact ih h1
theorem next_eat {l : List Bool} {c i : Nat} (hi : i < p.size) (h : l[i]? = some true) (hc : byteAt p i = 42) : (nextTo p c l p.size)[i]? = some true := by
  refine next_keep (m := i + 1) hi ?_
  rw [nextTo, if_pos h, if_pos hc]
  exact set_true_self (by rw [nextTo_len]; omega)
theorem next_char {l : List Bool} {c i : Nat} (hi : i < p.size) (h : l[i]? = some true) (hc : byteAt p i ≠ 42) (hd : byteAt p i = 63 ∨ byteAt p i = c) : (nextTo p c l p.size)[i + 1]? = some true := by
  refine next_keep (m := i + 1) hi ?_
  rw [nextTo, if_pos h, if_neg hc, if_pos hd]
  exact set_true_self (by rw [nextTo_len]; omega)
theorem run_complete {i k : Nat} (h : Pm p s i k) : (nameRun p s k)[i]? = some true := by
  induction h with
  | start => rw [nameRun]; exact stars_mono rfl _
  | @star i k _ hi hc ih =>
    cases k with
    | zero => rw [nameRun] at ih ⊢; exact stars_close (by simp) hi hc ih
    | succ k => rw [nameRun] at ih ⊢; exact stars_close (nextTo_len _ _ _ _) hi hc ih
  | eat _ hi hk hc ih => rw [nameRun]; exact stars_mono (next_eat hi ih hc) _
  | char _ hi hk hc hd ih => rw [nameRun]; exact stars_mono (next_char hi ih hc hd) _
theorem nameM_pm : nameM p s = true ↔ Pm p s p.size s.size := by
  have h0 := nameRun_len p s s.size
  unfold nameM
  constructor
  · intro h
    refine run_sound _ (Nat.le_refl _) _ ?_
    rw [List.getElem?_eq_getElem (by omega)] at h ⊢
    simpa using h
  · intro h
    rw [run_complete h]; rfl
end
/-! ### names that two parts match -/
section
variable {p q s : ByteArray}
/-- dots so far: 0 to 2 for so many, 3 for anything else -/
def dotsN (s : ByteArray) : Nat → Nat
  | 0 => 0
  | k + 1 => if byteAt s k = 46 then min (dotsN s k + 1) 3 else 3
theorem pm_reach {i k : Nat} (hp : Pm p s i k) : ∀ j, Pm q s j k → ∃ d, dotsN s k ≤ d ∧ Reach p q (i, j, d) := by
  have stepC : ∀ {i j k d : Nat}, i < p.size → j < q.size → (byteAt p i = 42 ∨ byteAt p i = 63 ∨ byteAt p i = byteAt s k) → (byteAt q j = 42 ∨ byteAt q j = 63 ∨ byteAt q j = byteAt s k) → dotsN s k ≤ d → Reach p q (i, j, d) →
      ∃ d', dotsN s (k + 1) ≤ d' ∧ Reach p q (if byteAt p i = 42 then i else i + 1, if byteAt q j = 42 then j else j + 1, d') := by
    intro i j k d hi hj h1 h2 hd hr
    have hf : fits p q (i, j, d) := by
      show wildB (byteAt p i) = true ∨ wildB (byteAt q j) = true ∨ byteAt p i = byteAt q j
      unfold wildB
      rcases h1 with h1 | h1 | h1 <;> rcases h2 with h2 | h2 | h2 <;> simp [h1, h2]
    refine ⟨nxD p q (i, j, d), ?_, .step hr (nextL_mem.2 (.inr (.inr ⟨hi, hj, hf, rfl⟩)))⟩
    unfold nxD
    show dotsN s (k + 1) ≤ if byteAt p i = 46 ∨ byteAt q j = 46 then min (d + 1) 3 else 3
    have h3 : dotsN s (k + 1) ≤ 3 := by rw [dotsN]; split <;> omega
    split
    · rename_i h4
      have h5 : byteAt s k = 46 := by omega
      rw [dotsN, if_pos h5]; omega
    · exact h3
  induction hp with
  | start =>
    intro j hq
    generalize hk : 0 = k at hq
    induction hq with
    | start => exact ⟨0, Nat.le_refl _, .start⟩
    | star _ hj hc ih =>
      obtain ⟨d, h1, h2⟩ := ih hk
      exact ⟨d, h1, .step h2 (nextL_mem.2 (.inr (.inl ⟨hj, hc, rfl⟩)))⟩
    | eat => omega
    | char => omega
  | star _ hi hc ih =>
    intro j hq
    obtain ⟨d, h1, h2⟩ := ih j hq
    exact ⟨d, h1, .step h2 (nextL_mem.2 (.inl ⟨hi, hc, rfl⟩))⟩
  | @eat i k _ hi hk hc ih =>
    intro j hq
    generalize hk : k + 1 = k' at hq
    induction hq with
    | start => omega
    | star _ hj hc ih2 =>
      obtain ⟨d, h1, h2⟩ := ih2 hk
      exact ⟨d, h1, .step h2 (nextL_mem.2 (.inr (.inl ⟨hj, hc, rfl⟩)))⟩
    | eat hq0 hj _ hc2 =>
      obtain rfl := Nat.succ.inj hk
      obtain ⟨d, h1, h2⟩ := ih _ hq0
      have h3 := stepC hi hj (.inl hc) (.inl hc2) h1 h2
      rwa [if_pos hc, if_pos hc2] at h3
    | char hq0 hj _ hc2 hd2 =>
      obtain rfl := Nat.succ.inj hk
      obtain ⟨d, h1, h2⟩ := ih _ hq0
      have h3 := stepC hi hj (.inl hc) (.inr hd2) h1 h2
      rwa [if_pos hc, if_neg hc2] at h3
  | @char i k _ hi hk hc hd ih =>
    intro j hq
    generalize hk : k + 1 = k' at hq
    induction hq with
    | start => omega
    | star _ hj hc ih2 =>
      obtain ⟨d, h1, h2⟩ := ih2 hk
      exact ⟨d, h1, .step h2 (nextL_mem.2 (.inr (.inl ⟨hj, hc, rfl⟩)))⟩
    | eat hq0 hj _ hc2 =>
      obtain rfl := Nat.succ.inj hk
      obtain ⟨d, h1, h2⟩ := ih _ hq0
      have h3 := stepC hi hj (.inr hd) (.inl hc2) h1 h2
      rwa [if_neg hc, if_pos hc2] at h3
    | char hq0 hj _ hc2 hd2 =>
      obtain rfl := Nat.succ.inj hk
      obtain ⟨d, h1, h2⟩ := ih _ hq0
      have h3 := stepC hi hj (.inr hd) (.inr hd2) h1 h2
      rwa [if_neg hc, if_neg hc2] at h3
theorem strEq_eq {a b : ByteArray} : strEq a b = true ↔ a = b := by
  unfold strEq
  rw [beq_iff_eq, ByteArray.toList_eq, ByteArray.toList_eq]
  exact ⟨fun h => bs_inj h, fun h => by rw [h]⟩
theorem strEq_no {a b : ByteArray} : strEq a b = false ↔ a ≠ b := by
  rw [Bool.eq_false_iff, Ne, strEq_eq]
theorem ba_ext {a b : ByteArray} (h : a.size = b.size) (hb : ∀ i, i < a.size → byteAt a i = byteAt b i) : a = b := by
  apply bs_inj
  refine List.ext_getElem (by rw [bsOf_len, bsOf_len, h]) fun i h1 h2 => ?_
  rw [bsOf_len] at h1 h2
  rw [byteAt_bs h1, byteAt_bs h2, hb i h1]
theorem dots_small : ∀ k, k ≤ s.size → dotsN s k < 3 → dotsN s k = k ∧ ∀ i, i < k → byteAt s i = 46
  | 0, _, _ => ⟨rfl, fun _ h => by omega⟩
  | k + 1, hk, h => by
    rw [dotsN] at h ⊢
    split at h
    · rename_i hc
      obtain ⟨h1, h2⟩ := dots_small k (by omega) (by omega)
      rw [if_pos hc]
      exact ⟨by omega, fun i hi => by rcases Nat.lt_succ_iff_lt_or_eq.1 hi with h3 | rfl; exact h2 i h3; exact hc⟩
    · omega
theorem dots_name (h : nameOk s = true) : dotsN s s.size = 3 := by
  unfold nameOk at h
  simp only [Bool.and_eq_true, Bool.not_eq_true'] at h
  obtain ⟨_, ⟨h1, h2⟩, h3⟩ := h
  rw [strEq_no] at h1 h2 h3
  have hle : dotsN s s.size ≤ 3 := by
    cases hs : s.size with
    | zero => simp [dotsN]
    | succ k => rw [dotsN]; split <;> omega
  rcases Nat.lt_or_ge (dotsN s s.size) 3 with h4 | h4
  · obtain ⟨h5, h6⟩ := dots_small _ (Nat.le_refl _) h4
    exfalso
    rw [h5] at h4
    have e0 : (⟨#[]⟩ : ByteArray).size = 0 := rfl
    have e1 : (⟨#[46]⟩ : ByteArray).size = 1 := rfl
    have e2 : (⟨#[46, 46]⟩ : ByteArray).size = 2 := rfl
    have hsz : s.size = 0 ∨ s.size = 1 ∨ s.size = 2 := by omega
    rcases hsz with hs | hs | hs
    · exact h1 (ba_ext (by rw [hs, e0]) fun i hi => by omega)
    · exact h2 (ba_ext (by rw [hs, e1]) fun i hi => by rw [h6 i hi]; obtain rfl : i = 0 := by omega
                                                       rfl)
    · refine h3 (ba_ext (by rw [hs, e2]) fun i hi => ?_)
      rw [h6 i hi]
      have hi2 : i = 0 ∨ i = 1 := by omega
      rcases hi2 with rfl | rfl <;> rfl
  · omega
theorem common_of (hn : nameOk s = true) (h1 : nameM p s = true) (h2 : nameM q s = true) : commonB p q = true := by
  obtain ⟨d, h3, h4⟩ := pm_reach (nameM_pm.1 h1) _ (nameM_pm.1 h2)
  rw [dots_name hn] at h3
  have h5 := h4.ok.2.2
  have h6 : d = 3 := by change d ≤ 3 at h5; omega
  subst h6
  exact commonB_reach.2 h4
theorem to_swap {x : Pl} (h : To p q x) : To q p (x.2.1, x.1, x.2.2) := by
  induction h with
  | here => exact .here
  | @step x y hy _ ih =>
    refine .step (y := (y.2.1, y.1, y.2.2)) (nextL_mem.2 ?_) ih
    rcases nextL_mem.1 hy with ⟨h1, h2, rfl⟩ | ⟨h1, h2, rfl⟩ | ⟨h1, h2, h3, rfl⟩
    · exact .inr (.inl ⟨h1, h2, rfl⟩)
    · exact .inl ⟨h1, h2, rfl⟩
    · refine .inr (.inr ⟨h2, h1, ?_, ?_⟩)
      · rcases h3 with h | h | h
        · exact .inr (.inl h)
        · exact .inl h
        · exact .inr (.inr h.symm)
      · have e : nxD q p (x.2.1, x.1, x.2.2) = nxD p q x := by
          unfold nxD
          by_cases hc : byteAt p x.1 = 46 ∨ byteAt q x.2.1 = 46
          · rw [if_pos hc, if_pos (show byteAt q x.2.1 = 46 ∨ byteAt p x.1 = 46 from hc.symm)]
          · rw [if_neg hc, if_neg (show ¬ (byteAt q x.2.1 = 46 ∨ byteAt p x.1 = 46) from fun h => hc h.symm)]
        rw [e]; rfl
theorem common_symm (p q : ByteArray) : commonB p q = commonB q p := by
  rw [Bool.eq_iff_iff, commonB_to, commonB_to]
  exact ⟨fun h => to_swap h, fun h => to_swap h⟩
end
/-! ### patterns that meet -/
inductive Ov : List ByteArray → List ByteArray → Prop
  | nil : Ov [] []
  | starL {p : ByteArray} {P Q : List ByteArray} : strEq p sStars = true → Ov P Q → Ov (p :: P) Q
  | starR {q : ByteArray} {P Q : List ByteArray} : strEq q sStars = true → Ov P Q → Ov P (q :: Q)
  | eatL {p q : ByteArray} {P Q : List ByteArray} : strEq p sStars = true → Ov (p :: P) Q → Ov (p :: P) (q :: Q)
  | eatR {p q : ByteArray} {P Q : List ByteArray} : strEq q sStars = true → Ov P (q :: Q) → Ov (p :: P) (q :: Q)
  | both {p q : ByteArray} {P Q : List ByteArray} : strEq p sStars = false → strEq q sStars = false → commonB p q = true → Ov P Q → Ov (p :: P) (q :: Q)
theorem Ov.symm {P Q : List ByteArray} (h : Ov P Q) : Ov Q P := by
  induction h with
  | nil => exact .nil
  | starL hp _ ih => exact .starR hp ih
  | starR hp _ ih => exact .starL hp ih
  | eatL hp _ ih => exact .eatR hp ih
  | eatR hp _ ih => exact .eatL hp ih
  | both hp hq hc _ ih => exact .both hq hp (by rw [common_symm]; exact hc) ih
theorem starW_here {f : List ByteArray → Bool} {N : List ByteArray} (h : f N = true) : starW f N = true := by
  cases N with
  | nil => exact h
  | cons n N => rw [starW, h]; rfl
theorem starW_ov {p : ByteArray} {P : List ByteArray} (hp : strEq p sStars = true) (ih : ∀ Q, ov P Q = true → Ov P Q) : ∀ Q, starW (ov P) Q = true → Ov (p :: P) Q
  | [], h => .starL hp (ih _ h)
  | q :: Q, h => by
    rw [starW, Bool.or_eq_true] at h
    rcases h with h | h
    · exact .starL hp (ih _ h)
    · exact .eatL hp (starW_ov hp ih Q h)
theorem ovN_ov {p : ByteArray} {P : List ByteArray} (hp : strEq p sStars = false) (ih : ∀ Q, ov P Q = true → Ov P Q) : ∀ Q, ovN p (ov P) Q = true → Ov (p :: P) Q
  | [], h => by simp [ovN] at h
  | q :: Q, h => by
    rw [ovN] at h
    split at h
    · rename_i hq
      rw [Bool.or_eq_true] at h
      rcases h with h | h
      · exact .starR hq (ovN_ov hp ih Q h)
      · exact .eatR hq (ih _ h)
    · rename_i hq
      rw [Bool.and_eq_true] at h
      exact .both hp (by simpa using hq) h.1 (ih _ h.2)
theorem all_ov : ∀ Q : List ByteArray, Q.all (strEq · sStars) = true → Ov [] Q
  | [], _ => .nil
  | q :: Q, h => by
    rw [List.all_cons, Bool.and_eq_true] at h
    exact .starR h.1 (all_ov Q h.2)
theorem ov_Ov : ∀ (P Q : List ByteArray), ov P Q = true → Ov P Q
  | [], Q, h => all_ov Q h
  | p :: P, Q, h => by
    rw [ov] at h
    split at h
    · rename_i hp; exact starW_ov hp (ov_Ov P) Q h
    · rename_i hp; exact ovN_ov (by simpa using hp) (ov_Ov P) Q h
theorem Ov_ov {P Q : List ByteArray} (h : Ov P Q) : ov P Q = true := by
  induction h with
  | nil => rfl
  | starL hp _ ih => rw [ov, if_pos hp]; exact starW_here ih
  | @starR q P Q hq _ ih =>
    cases P with
    | nil => rw [ov] at ih ⊢; rw [List.all_cons, hq, ih]; rfl
    | cons p P =>
      rw [ov] at ih ⊢
      split at ih
      · rename_i hp; rw [if_pos hp, starW, ih]; simp
      · rename_i hp; rw [if_neg hp, ovN, if_pos hq, ih]; rfl
  | eatL hp _ ih => rw [ov, if_pos hp] at ih ⊢; rw [starW, ih]; simp
  | @eatR p q P Q hq _ ih =>
    rw [ov]
    split
    · exact starW_here ih
    · rw [ovN, if_pos hq, ih]; simp
  | both hp hq hc _ ih => rw [ov, if_neg (by simp [hp]), ovN, if_neg (by simp [hq]), hc, ih]; rfl
theorem ov_symm (P Q : List ByteArray) : ov P Q = ov Q P := by
  rw [Bool.eq_iff_iff]
  exact ⟨fun h => Ov_ov (ov_Ov _ _ h).symm, fun h => Ov_ov (ov_Ov _ _ h).symm⟩
/-- a path that matches -/
inductive Wk : List ByteArray → List ByteArray → Prop
  | nil : Wk [] []
  | skip {p : ByteArray} {P N : List ByteArray} : strEq p sStars = true → Wk P N → Wk (p :: P) N
  | eat {p n : ByteArray} {P N : List ByteArray} : strEq p sStars = true → Wk (p :: P) N → Wk (p :: P) (n :: N)
  | name {p n : ByteArray} {P N : List ByteArray} : strEq p sStars = false → nameM p n = true → Wk P N → Wk (p :: P) (n :: N)
theorem starW_Wk {p : ByteArray} {P : List ByteArray} (hp : strEq p sStars = true) (ih : ∀ N, wk P N = true → Wk P N) : ∀ N, starW (wk P) N = true → Wk (p :: P) N
  | [], h => .skip hp (ih _ h)
  | n :: N, h => by
    rw [starW, Bool.or_eq_true] at h
    rcases h with h | h
    · exact .skip hp (ih _ h)
    · exact .eat hp (starW_Wk hp ih N h)
theorem wk_Wk : ∀ (P N : List ByteArray), wk P N = true → Wk P N
  | [], N, h => by
    rw [wk] at h
    obtain rfl : N = [] := by simpa using h
    exact .nil
  | p :: P, N, h => by
    rw [wk] at h
    split at h
    · rename_i hp; exact starW_Wk hp (wk_Wk P) N h
    · rename_i hp
      cases N with
      | nil => simp [nameW] at h
      | cons n N =>
        rw [nameW, Bool.and_eq_true] at h
        exact .name (by simpa using hp) h.1 (wk_Wk P N h.2)
theorem Wk_wk {P N : List ByteArray} (h : Wk P N) : wk P N = true := by
  induction h with
  | nil => rfl
  | skip hp _ ih => rw [wk, if_pos hp]; exact starW_here ih
  | eat hp _ ih => rw [wk, if_pos hp] at ih ⊢; rw [starW, ih]; simp
  | name hp hn _ ih => rw [wk, if_neg (by simp [hp]), nameW, hn, ih]; rfl
theorem meet_of {P N : List ByteArray} (h : Wk P N) : ∀ Q, (∀ n ∈ N, nameOk n = true) → Wk Q N → Ov P Q := by
  induction h with
  | nil =>
    intro Q _ hq
    generalize hN : [] = N at hq
    induction hq with
    | nil => exact .nil
    | skip hp _ ih => exact .starR hp (ih hN)
    | eat => cases hN
    | name => cases hN
  | skip hp _ ih => intro Q hn hq; exact .starL hp (ih Q hn hq)
  | @eat p n P N hp _ ih =>
    intro Q hn hq
    generalize hN : n :: N = N' at hq
    induction hq with
    | nil => cases hN
    | skip hq _ ih2 => exact .starR hq (ih2 hN)
    | eat hq0 hq1 _ => cases hN; exact ih _ (fun x hx => hn x (by simp [hx])) hq1
    | name hq0 _ hq1 _ => cases hN; exact .eatL hp (ih _ (fun x hx => hn x (by simp [hx])) hq1)
  | @name p n P N hp hm _ ih =>
    intro Q hn hq
    generalize hN : n :: N = N' at hq
    induction hq with
    | nil => cases hN
    | skip hq _ ih2 => exact .starR hq (ih2 hN)
    | eat hq0 hq1 _ => cases hN; exact .eatR hq0 (ih _ (fun x hx => hn x (by simp [hx])) hq1)
    | name hq0 hm2 hq1 _ => cases hN; exact .both hp hq0 (common_of (hn n (by simp)) hm hm2) (ih _ (fun x hx => hn x (by simp [hx])) hq1)
/-! ### the answers -/
section
variable {a b s : ByteArray}
theorem patFault_zero : (patFault a).code = 0 ↔ patFault a = ⟨0, 0⟩ := by
  unfold patFault
  split
  · simp
  · rename_i h; simp; omega
theorem matchF_zero : (matchF a s).code = 0 ↔ patFault a = ⟨0, 0⟩ ∧ pathOk s = true := by
  unfold matchF
  by_cases h : patFault a = ⟨0, 0⟩
  · rw [if_neg (fun h1 => h1 h)]
    cases pathOk s <;> simp [h]
  · rw [if_pos h, patFault_zero]; simp [h]
theorem overF_zero : (overF a b).code = 0 ↔ patFault a = ⟨0, 0⟩ ∧ patFault b = ⟨0, 0⟩ := by
  unfold overF
  by_cases h : patFault a = ⟨0, 0⟩
  · rw [if_neg (fun h1 => h1 h)]
    by_cases h2 : patFault b = ⟨0, 0⟩
    · rw [if_neg (fun h1 => h1 h2)]; simp [h, h2]
    · rw [if_pos h2]
      simp only [h2, and_false, iff_false]
      exact fun h3 => h2 (patFault_zero.1 h3)
  · rw [if_pos h, patFault_zero]; simp [h]
theorem overF_symm : decide ((overF a b).code = 0) = decide ((overF b a).code = 0) :=
  decide_eq_decide.2 (by rw [overF_zero, overF_zero]; exact And.comm)
theorem overV_symm : overV a b = overV b a := by
  unfold overV
  by_cases h : patFault a = ⟨0, 0⟩ ∧ patFault b = ⟨0, 0⟩
  · rw [if_pos h, if_pos h.symm, ov_symm]
  · rw [if_neg h, if_neg (fun h1 => h h1.symm)]
theorem pathOk_names (h : pathOk s = true) : ∀ n ∈ cutS s, nameOk n = true := by
  unfold pathOk at h
  rw [Bool.and_eq_true] at h
  exact List.all_eq_true.1 h.1
theorem over_witness (h1 : (matchF a s).code = 0) (h2 : (matchF b s).code = 0) (h3 : matchV a s = true) (h4 : matchV b s = true) : (overF a b).code = 0 ∧ overV a b = true := by
  rw [matchF_zero] at h1 h2
  unfold matchV at h3 h4
  rw [if_pos h1] at h3
  rw [if_pos h2] at h4
  refine ⟨overF_zero.2 ⟨h1.1, h2.1⟩, ?_⟩
  unfold overV
  rw [if_pos ⟨h1.1, h2.1⟩]
  exact Ov_ov (meet_of (wk_Wk _ _ h3) _ (pathOk_names h1.2) (wk_Wk _ _ h4))
end
/-! ### directories -/
theorem splitL_glue : ∀ (a b : Bs), splitL (a ++ 47 :: b) = splitL a ++ splitL b
  | [], b => by simp [splitL]
  | c :: a, b => by
    have ih := splitL_glue a b
    simp only [List.cons_append, splitL, ih]
    split
    · rfl
    · cases h : splitL a with
      | nil => exact absurd h (splitL_ne a)
      | cons x r => rfl
theorem bsOf_append (a b : ByteArray) : bsOf (a ++ b) = bsOf a ++ bsOf b := by
  unfold bsOf
  rw [ByteArray.data_append, Array.toList_append]
theorem cut_glue (a b : ByteArray) : cutS (a ++ ⟨#[47]⟩ ++ b) = cutS a ++ cutS b := by
  unfold cutS
  rw [bsOf_append, bsOf_append, show bsOf ⟨#[47]⟩ = [47] from rfl, List.append_assoc, List.singleton_append, splitL_glue, List.map_append]
theorem cut_front (b : ByteArray) : cutS (⟨#[42, 42, 47]⟩ ++ b) = sStars :: cutS b := by
  unfold cutS
  rw [bsOf_append, show bsOf ⟨#[42, 42, 47]⟩ = [42, 42] ++ [47] from rfl, List.append_assoc, List.singleton_append, splitL_glue, List.map_append]
  rfl
theorem cut_behind (a : ByteArray) : cutS (a ++ ⟨#[47, 42, 42]⟩) = cutS a ++ [sStars] := by
  unfold cutS
  rw [bsOf_append, show bsOf ⟨#[47, 42, 42]⟩ = 47 :: [42, 42] from rfl, splitL_glue, List.map_append]
  rfl
theorem lit_char {n : Nat} (h : letterB n = true) : n ≠ 42 ∧ n ≠ 63 := by
  unfold letterB at h
  have := of_decide_eq_true h
  omega
theorem name_letter {s : ByteArray} (h : nameOk s = true) {i : Nat} (hi : i < s.size) : letterB (byteAt s i) = true := by
  unfold nameOk at h
  rw [Bool.and_eq_true] at h
  exact List.all_eq_true.1 h.1 i (List.mem_range.2 hi)
theorem name_self {s : ByteArray} (h : nameOk s = true) : nameM s s = true := by
  rw [nameM_pm]
  have key : ∀ k, k ≤ s.size → Pm s s k k := by
    intro k
    induction k with
    | zero => exact fun _ => .start
    | succ k ih => exact fun hk => .char (ih (by omega)) hk hk (lit_char (name_letter h hk)).1 (.inr rfl)
  exact key _ (Nat.le_refl _)
theorem name_stars {s : ByteArray} (h : nameOk s = true) : strEq s sStars = false := by
  rw [strEq_no]
  rintro rfl
  exact absurd (name_letter h (i := 0) (by decide)) (by decide)
theorem wk_dir : ∀ (D P N : List ByteArray), (∀ d ∈ D, nameOk d = true) → wk (D ++ P) (D ++ N) = wk P N
  | [], _, _, _ => rfl
  | d :: D, P, N, h => by
    have hd := h d (by simp)
    rw [List.cons_append, List.cons_append, wk, if_neg (by simp [name_stars hd]), nameW, name_self hd, Bool.true_and]
    exact wk_dir D P N (fun x hx => h x (by simp [hx]))
theorem dir_composes {d p s : ByteArray} (h1 : (matchF p s).code = 0) (h2 : (matchF (d ++ ⟨#[47]⟩ ++ p) (d ++ ⟨#[47]⟩ ++ s)).code = 0) (h3 : pathOk d = true) :
    matchV p s = matchV (d ++ ⟨#[47]⟩ ++ p) (d ++ ⟨#[47]⟩ ++ s) := by
  rw [matchF_zero] at h1 h2
  unfold matchV
  rw [if_pos h1, if_pos h2, cut_glue, cut_glue, wk_dir _ _ _ (pathOk_names h3)]
theorem dir_size {d p s : ByteArray} (h : (matchF (d ++ ⟨#[47]⟩ ++ p) s).code = 0) : d.size ≤ 60 := by
  have := patFault_size (matchF_zero.1 h).1
  simp [ByteArray.size_append] at this
  omega
theorem stars_self : strEq sStars sStars = true := strEq_eq.2 rfl
theorem deep_front {p s : ByteArray} (h1 : (matchF p s).code = 0) (hv : matchV p s = true) (h2 : (matchF (⟨#[42, 42, 47]⟩ ++ p) s).code = 0) : matchV (⟨#[42, 42, 47]⟩ ++ p) s = true := by
  rw [matchF_zero] at h1 h2
  unfold matchV at hv ⊢
  rw [if_pos h1] at hv
  rw [if_pos h2, cut_front]
  exact Wk_wk (.skip stars_self (wk_Wk _ _ hv))
theorem wk_behind {P N : List ByteArray} (h : Wk P N) : Wk (P ++ [sStars]) N := by
  induction h with
  | nil => exact .skip stars_self .nil
  | skip hp _ ih => exact .skip hp ih
  | eat hp _ ih => exact .eat hp ih
  | name hp hn _ ih => exact .name hp hn ih
theorem deep_behind {p s : ByteArray} (h1 : (matchF p s).code = 0) (hv : matchV p s = true) (h2 : (matchF (p ++ ⟨#[47, 42, 42]⟩) s).code = 0) : matchV (p ++ ⟨#[47, 42, 42]⟩) s = true := by
  rw [matchF_zero] at h1 h2
  unfold matchV at hv ⊢
  rw [if_pos h1] at hv
  rw [if_pos h2, cut_behind]
  exact Wk_wk (wk_behind (wk_Wk _ _ hv))
theorem wk_below {P N : List ByteArray} (h : Wk P N) : ∀ D, Wk (sStars :: P) (D ++ N)
  | [] => .skip stars_self h
  | _ :: D => .eat stars_self (wk_below h D)
theorem deep_below {d p s : ByteArray} (h1 : (matchF p s).code = 0) (hv : matchV p s = true) (h2 : (matchF (⟨#[42, 42, 47]⟩ ++ p) (d ++ ⟨#[47]⟩ ++ s)).code = 0) : matchV (⟨#[42, 42, 47]⟩ ++ p) (d ++ ⟨#[47]⟩ ++ s) = true := by
  rw [matchF_zero] at h1 h2
  unfold matchV at hv ⊢
  rw [if_pos h1] at hv
  rw [if_pos h2, cut_front, cut_glue]
  exact Wk_wk (wk_below (wk_Wk _ _ hv) _)
end Go.Cf
