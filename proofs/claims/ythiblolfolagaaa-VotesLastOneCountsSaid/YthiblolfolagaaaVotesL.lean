/- Votes: the plain laws. No program in sight. -/
import Derived.Test.YthiblolfolagaaaVotesM
namespace Go.Cf.Votes

/-- the last vote of a user, if there is one -/
def lastOf (l : List Vote) (u at_ : Int) : Option Vote := (l.filter (fun v => decide (v.user = u) && decide (v.rev ≤ at_))).getLast?
def stOf (tr : List Bool) (at_ : Nat) : Option Vote → Int × Bool
  | none => (0, false)
  | some x => (x.val, cnt tr at_ x || decide (x.val = -2))
theorem statesOf_snoc (l : List Vote) (v : Vote) (tr : List Bool) (at_ : Nat) : statesOf (l ++ [v]) tr at_ = stepSt tr at_ (statesOf l tr at_) v := by
  unfold statesOf; rw [List.foldl_append]; rfl
theorem statesOf_at (tr : List Bool) (at_ : Nat) (u : Nat) (hu : u < 8) (l : List Vote) (hg : ∀ v ∈ l, 0 ≤ v.user) : (statesOf l tr at_)[u]? = some (stOf tr at_ (lastOf l u at_)) := by
  revert hg
  refine snoc_ind (Q := fun l => (∀ v ∈ l, 0 ≤ v.user) → (statesOf l tr at_)[u]? = some (stOf tr at_ (lastOf l u at_))) ?_ ?_ l
  · intro _; unfold statesOf; rw [List.foldl_nil, List.getElem?_replicate, if_pos hu]; rfl
  · intro l v ih hg
    have ih := ih (fun x hx => hg x (by simp [hx]))
    have hv := hg v (by simp)
    rw [statesOf_snoc, stepSt]
    unfold lastOf at ih ⊢
    rw [List.filter_append]
    by_cases h1 : (at_ : Int) < v.rev
    · rw [if_pos h1, ih]
      rw [List.filter_cons, if_neg (by simp; omega), List.filter_nil, List.append_nil]
    · rw [if_neg h1, List.getElem?_set]
      by_cases h2 : v.user.toNat = u
      · rw [if_pos h2, if_pos (by rw [statesOf_len]; omega)]
        rw [List.filter_cons, if_pos (by simp; omega), List.filter_nil, List.getLast?_append]
        simp [stOf]
      · rw [if_neg h2, ih]
        rw [List.filter_cons, if_neg (by simp; omega), List.filter_nil, List.append_nil]
theorem lastOf_mem {l : List Vote} {u at_ : Int} {x : Vote} (h : lastOf l u at_ = some x) : x ∈ l ∧ x.user = u ∧ x.rev ≤ at_ := by
  have := List.mem_of_getLast? h
  rw [List.mem_filter] at this
  simpa using this
theorem lastVote_eq (l : List Vote) (u at_ : Int) : lastVote l u at_ = (lastOf l u at_).getD ⟨u, at_, 0⟩ := rfl

/-! ### law 1 -/
def refVal (l : List Vote) (tr : List Bool) (a : Nat) (u : Nat) : Int := if counts tr a (lastVote l u a) then (lastVote l u a).val else 0
def refCur (l : List Vote) (tr : List Bool) (a : Nat) (k : Nat) : List Int := (List.range k).map (refVal l tr a)
def refLap (l : List Vote) (tr : List Bool) (a : Nat) (k : Nat) : List Int := ((List.range k).filter (fun (u : Nat) => !counts tr a (lastVote l u a) && decide ((lastVote l u a).val ≠ 0))).map (fun (u : Nat) => (u : Int))
theorem curOf_eq (l : List Vote) (tr : List Bool) (a u : Nat) : curOf (stOf tr a (lastOf l u a)) = refVal l tr a u := by
  unfold refVal
  rw [lastVote_eq]
  cases lastOf l u a with
  | none => simp [stOf, curOf]
  | some x => simp [stOf, curOf, counts, Bool.or_comm]
theorem list_of_at {α β : Type} (f : α → β) (l : List α) (g : Nat → α) (n : Nat) (hn : l.length = n) (h : ∀ u, u < n → l[u]? = some (g u)) : l.map f = (List.range n).map (fun u => f (g u)) := by
  apply List.ext_getElem?
  intro i
  by_cases hi : i < n
  · simp [h i hi, hi]
  · rw [List.getElem?_eq_none (by simp; omega), List.getElem?_eq_none (by simp; omega)]
theorem cur_ref (l : List Vote) (tr : List Bool) (a : Nat) (hg : ∀ v ∈ l, 0 ≤ v.user) : (statesOf l tr a).map curOf = refCur l tr a 8 := by
  rw [list_of_at curOf _ (fun u => stOf tr a (lastOf l u a)) 8 (statesOf_len _ _ _) (fun u hu => statesOf_at tr a u hu l hg)]
  unfold refCur
  exact List.map_congr_left fun u _ => curOf_eq l tr a u
theorem refCur_succ (l : List Vote) (tr : List Bool) (a k : Nat) : refCur l tr a (k + 1) = refCur l tr a k ++ [refVal l tr a k] := by
  unfold refCur; rw [List.range_succ, List.map_append]; rfl
theorem refLap_succ (l : List Vote) (tr : List Bool) (a k : Nat) : refLap l tr a (k + 1) = if counts tr a (lastVote l k a) = false ∧ (lastVote l k a).val ≠ 0 then refLap l tr a k ++ [(k : Int)] else refLap l tr a k := by
  unfold refLap
  rw [List.range_succ, List.filter_append, List.map_append]
  cases h1 : counts tr a (lastVote l k a) <;> by_cases h2 : (lastVote l k a).val = 0 <;> simp [h1, h2]
theorem lapIdx_ref (l : List Vote) (tr : List Bool) (a : Nat) (hg : ∀ v ∈ l, 0 ≤ v.user) : ∀ k, k ≤ 8 → lapIdx (statesOf l tr a) k = refLap l tr a k
  | 0, _ => by simp [lapIdx, refLap]
  | k + 1, h => by
    have hk : k < (statesOf l tr a).length := by rw [statesOf_len]; omega
    rw [lapIdx_succ _ k hk, refLap_succ, lapIdx_ref l tr a hg k (by omega)]
    have hs := statesOf_at tr a k (by omega) l hg
    rw [List.getElem?_eq_getElem hk] at hs
    injection hs with hs
    rw [hs, lastVote_eq]
    cases lastOf l k a with
    | none => simp [stOf]
    | some x => simp [stOf, counts, and_comm, Bool.or_comm]
theorem refCur_len (l : List Vote) (tr : List Bool) (a k : Nat) : (refCur l tr a k).length = k := by simp [refCur]
theorem refLap_len (l : List Vote) (tr : List Bool) (a k : Nat) : (refLap l tr a k).length ≤ k := by
  unfold refLap; rw [List.length_map]; exact Nat.le_trans (List.length_filter_le _ _) (by simp)
theorem refVal_bd (l : List Vote) (tr : List Bool) (a u : Nat) (ok : Ok l tr) : -2 ≤ refVal l tr a u ∧ refVal l tr a u ≤ 2 := by
  unfold refVal
  rw [lastVote_eq]
  cases h : lastOf l u a with
  | none => simp
  | some x =>
    have := ok.good x (lastOf_mem h).1
    unfold Bad at this
    simp only [Option.getD_some]
    split <;> omega
theorem lastVote_rev (l : List Vote) (tr : List Bool) (a : Nat) (u : Int) (ok : Ok l tr) : 0 ≤ (lastVote l u a).rev ∧ (lastVote l u a).rev ≤ a := by
  rw [lastVote_eq]
  cases h : lastOf l u a with
  | none => simp
  | some x =>
    obtain ⟨h1, h2, h3⟩ := lastOf_mem h
    have := ok.good x h1
    unfold Bad at this
    simp only [Option.getD_some]
    omega
theorem isum_ref_bd (l : List Vote) (tr : List Bool) (a : Nat) (ok : Ok l tr) : ∀ k : Nat, -2 * (k : Int) ≤ isum (refCur l tr a k) ∧ isum (refCur l tr a k) ≤ 2 * (k : Int)
  | 0 => by simp [refCur, isum]
  | k + 1 => by
    have := isum_ref_bd l tr a ok k
    have := refVal_bd l tr a k ok
    rw [refCur_succ, isum_snoc]; omega
theorem ok_user {l : List Vote} {tr : List Bool} (ok : Ok l tr) : ∀ v ∈ l, 0 ≤ v.user := fun v hv => by
  have := ok.good v hv; unfold Bad at this; omega

theorem stateF_of_ok {l : List Vote} {tr : List Bool} {at_ : Int} (h : stateF l tr at_ = ⟨0, 0⟩) : validate l tr = ⟨0, 0⟩ ∧ 0 ≤ at_ ∧ at_ < tr.length := by
  unfold stateF at h
  split at h
  · rename_i h1; exact absurd h h1
  · rename_i h1
    split at h
    · injection h with h2; omega
    · exact ⟨by simpa using h1, by omega, by omega⟩
theorem stateF_code {l : List Vote} {tr : List Bool} {at_ : Int} (h : (stateF l tr at_).code = 0) : stateF l tr at_ = ⟨0, 0⟩ := by
  unfold stateF at h ⊢
  split
  · rename_i h1; rw [if_pos h1] at h; exact validate_code l tr h
  · rename_i h1
    rw [if_neg h1] at h
    split
    · rename_i h2; rw [if_pos h2] at h; cases h
    · rfl
theorem curL_at {l : List Vote} {tr : List Bool} {a : Nat} (h : stateF l tr a = ⟨0, 0⟩) (u : Nat) (hu : u < 8) : (curL l tr a)[u]? = some (curOf (stOf tr a (lastOf l u a))) := by
  obtain ⟨ok, _, _⟩ := stateF_ok l tr a h
  rw [curL, if_pos h, Int.toNat_natCast, List.getElem?_map, statesOf_at tr a u hu l (ok_user ok)]; rfl
theorem curL_len8 {l : List Vote} {tr : List Bool} {a : Nat} (h : stateF l tr a = ⟨0, 0⟩) : (curL l tr a).length = 8 := by
  rw [curL, if_pos h, List.length_map, statesOf_len]

/-! ### law 2 -/
theorem last_new (l : List Vote) (tr : List Bool) (a : Nat) (user value : Int) (h1 : stateF l tr a = ⟨0, 0⟩) (h2 : stateF (l ++ [⟨user, a, value⟩]) tr a = ⟨0, 0⟩) (u : Nat) (hu : u < 8) :
    (curL (l ++ [⟨user, a, value⟩]) tr a)[u]? = if (u : Int) = user then some value else (curL l tr a)[u]? := by
  rw [curL_at h1 u hu, curL_at h2 u hu]
  unfold lastOf
  rw [List.filter_append, List.filter_cons]
  by_cases he : (u : Int) = user
  · subst he
    rw [if_pos rfl, if_pos (by simp), List.filter_nil, List.getLast?_append]
    simp [stOf, curOf, cnt]
  · rw [if_neg he, if_neg (by simp; omega), List.filter_nil, List.append_nil]

/-! ### law 3 -/
theorem cnt_more (tr : List Bool) (same : Bool) (a : Nat) (x : Vote) (ha : a + 1 = tr.length) (h0 : 0 ≤ x.rev) (h1 : x.rev ≤ a) : cnt (tr ++ [same]) (a + 1) x = (cnt tr a x && same) := by
  unfold cnt
  have e1 : (tr ++ [same]).drop (x.rev.toNat + 1) = tr.drop (x.rev.toNat + 1) ++ [same] := by rw [List.drop_append_of_le_length (by omega)]
  have e2 : (tr.drop (x.rev.toNat + 1) ++ [same]).take (a + 1 - x.rev.toNat) = tr.drop (x.rev.toNat + 1) ++ [same] := List.take_of_length_le (by simp; omega)
  have e3 : (tr.drop (x.rev.toNat + 1)).take (a - x.rev.toNat) = tr.drop (x.rev.toNat + 1) := List.take_of_length_le (by simp; omega)
  rw [e1, e2, e3, List.all_append]; simp
theorem veto_arith (c same : Bool) (val : Int) : (if (c && same || decide (val = -2)) = true then val else 0) = if same = true ∨ (if (c || decide (val = -2)) = true then val else 0) = -2 then (if (c || decide (val = -2)) = true then val else 0) else 0 := by
  by_cases hx : val = -2 <;> cases same <;> cases c <;> simp [hx]
theorem keeps_vetoes (l : List Vote) (tr : List Bool) (same : Bool) (a : Nat) (ha : a + 1 = tr.length) (h1 : stateF l tr a = ⟨0, 0⟩) (h2 : stateF l (tr ++ [same]) ((a + 1 : Nat) : Int) = ⟨0, 0⟩) (u : Nat) (hu : u < 8) :
    ∃ x y, (curL l tr a)[u]? = some x ∧ (curL l (tr ++ [same]) ((a + 1 : Nat) : Int))[u]? = some y ∧ y = if same = true ∨ x = -2 then x else 0 := by
  obtain ⟨ok, _, _⟩ := stateF_ok l tr a h1
  refine ⟨_, _, curL_at h1 u hu, curL_at h2 u hu, ?_⟩
  have hlast : lastOf l u ((a + 1 : Nat) : Int) = lastOf l u a := by
    unfold lastOf
    congr 1
    apply List.filter_congr
    intro v hv
    have := ok.good v hv
    unfold Bad at this
    have : v.rev ≤ (a : Int) := by omega
    have : v.rev ≤ ((a + 1 : Nat) : Int) := by omega
    simp_all
  rw [hlast]
  cases h : lastOf l u a with
  | none => simp [stOf, curOf]
  | some x =>
    obtain ⟨hm, _, hr⟩ := lastOf_mem h
    have := ok.good x hm
    unfold Bad at this
    simp only [stOf, curOf, cnt_more tr same a x ha (by omega) hr]
    exact veto_arith _ _ _

/-! ### law 4 -/
theorem valGo_iff (n : Nat) : ∀ (l : List Vote) (k : Nat) (p : Int), valGo n k p l = ⟨0, 0⟩ ↔ (∀ v ∈ l, ¬ Bad n v) ∧ l.Pairwise (fun a b => a.rev ≤ b.rev) ∧ ∀ v ∈ l, p ≤ v.rev
  | [], k, p => by simp [valGo]
  | v :: l, k, p => by
    constructor
    · exact valGo_ok n (v :: l) k p
    · rintro ⟨h1, h2, h3⟩
      unfold valGo
      rw [if_neg (h1 v (by simp)), if_neg (by have := h3 v (by simp); omega)]
      rw [List.pairwise_cons] at h2
      exact (valGo_iff n l (k + 1) v.rev).2 ⟨fun u hu => h1 u (by simp [hu]), h2.2, h2.1⟩
theorem valGo_fault (n : Nat) : ∀ (l : List Vote) (k : Nat) (p : Int), valGo n k p l = ⟨0, 0⟩ ∨ (valGo n k p l).code ≠ 0
  | l, k, p => by
    by_cases h : (valGo n k p l).code = 0
    · exact .inl (valGo_code n l k p h)
    · exact .inr h
theorem ok_iff (l : List Vote) (tr : List Bool) : validate l tr = ⟨0, 0⟩ ↔ Ok l tr := by
  constructor
  · exact ok_of l tr
  · intro ok
    have h1 := ok.few
    have h2 := ok.some
    have h3 := ok.short
    have h4 := ok.first
    unfold validate
    rw [if_neg (by omega), if_neg (by omega), if_neg (by rw [h4]; simp)]
    exact (valGo_iff tr.length l 0 0).2 ⟨ok.good, ok.sorted, fun v hv => by have := ok.good v hv; unfold Bad at this; omega⟩
theorem stateF_ok_iff (l : List Vote) (tr : List Bool) (at_ : Int) : stateF l tr at_ = ⟨0, 0⟩ ↔ Ok l tr ∧ 0 ≤ at_ ∧ at_ < tr.length := by
  constructor
  · exact stateF_ok l tr at_
  · rintro ⟨ok, h1, h2⟩
    unfold stateF
    rw [if_neg (by rw [(ok_iff l tr).2 ok]; simp), if_neg (by omega)]
/-- two neighbours exchanged -/
theorem swap_ok {x y : List Vote} {a b : Vote} {tr : List Bool} (hr : a.rev = b.rev) (ok : Ok (x ++ a :: b :: y) tr) : Ok (x ++ b :: a :: y) tr := by
  refine ⟨by simpa using ok.few, ok.some, ok.short, ok.first, fun v hv => ok.good v (by simp at hv ⊢; rcases hv with h | h | h | h <;> simp [h]), ?_⟩
  have h := ok.sorted
  rw [List.pairwise_append] at h ⊢
  obtain ⟨h1, h2, h3⟩ := h
  rw [List.pairwise_cons, List.pairwise_cons] at h2 ⊢
  obtain ⟨h21, h22, h23⟩ := h2
  refine ⟨h1, ⟨?_, ?_, h23⟩, ?_⟩
  · intro v hv
    rcases List.mem_cons.1 hv with rfl | hv
    · omega
    · exact h22 v hv
  · intro v hv; exact h21 v (by simp [hv])
  · intro v hv w hw; exact h3 v hv w (by simp at hw ⊢; rcases hw with h | h | h <;> simp [h])
theorem swap_states {x y : List Vote} {a b : Vote} (tr : List Bool) (at_ : Nat) (hu : a.user.toNat ≠ b.user.toNat) : statesOf (x ++ a :: b :: y) tr at_ = statesOf (x ++ b :: a :: y) tr at_ := by
  unfold statesOf
  rw [List.foldl_append, List.foldl_append, List.foldl_cons, List.foldl_cons, List.foldl_cons, List.foldl_cons]
  congr 1
  unfold stepSt
  by_cases h1 : (at_ : Int) < a.rev <;> by_cases h2 : (at_ : Int) < b.rev <;> simp [h1, h2]
  rw [List.set_comm _ _ hu]
theorem swap_cur {x y : List Vote} {a b : Vote} {tr : List Bool} {at_ : Int} (hu : a.user ≠ b.user) (hr : a.rev = b.rev) : curL (x ++ a :: b :: y) tr at_ = curL (x ++ b :: a :: y) tr at_ ∧
    (stateF (x ++ a :: b :: y) tr at_ = ⟨0, 0⟩ ↔ stateF (x ++ b :: a :: y) tr at_ = ⟨0, 0⟩) := by
  have hiff : stateF (x ++ a :: b :: y) tr at_ = ⟨0, 0⟩ ↔ stateF (x ++ b :: a :: y) tr at_ = ⟨0, 0⟩ := by
    rw [stateF_ok_iff, stateF_ok_iff]
    constructor
    · rintro ⟨ok, h⟩; exact ⟨swap_ok hr ok, h⟩
    · rintro ⟨ok, h⟩; exact ⟨swap_ok hr.symm ok, h⟩
  refine ⟨?_, hiff⟩
  unfold curL
  by_cases h : stateF (x ++ a :: b :: y) tr at_ = ⟨0, 0⟩
  · rw [if_pos h, if_pos (hiff.1 h)]
    obtain ⟨ok, _, _⟩ := stateF_ok _ _ _ h
    have g1 := ok.good a (by simp)
    have g2 := ok.good b (by simp)
    unfold Bad at g1 g2
    rw [swap_states tr _ (by omega)]
  · rw [if_neg h, if_neg (fun e => h (hiff.2 e))]

/-! ### law 5 -/
theorem early_states (tr : List Bool) (a : Nat) : ∀ (l : List Vote) (o : List (Int × Bool)), (l.filter (fun v => decide (v.rev ≤ (a : Int)))).foldl (stepSt tr a) o = l.foldl (stepSt tr a) o
  | [], _ => rfl
  | v :: l, o => by
    rw [List.filter_cons, List.foldl_cons]
    by_cases h : v.rev ≤ (a : Int)
    · rw [if_pos (by simpa using h), List.foldl_cons, early_states tr a l]
    · rw [if_neg (by simpa using h), early_states tr a l]
      congr 1
      rw [stepSt, if_pos (by omega)]
theorem early_ok {l : List Vote} {tr : List Bool} (p : Vote → Bool) (ok : Ok l tr) : Ok (l.filter p) tr :=
  ⟨Nat.le_trans (List.length_filter_le _ _) ok.few, ok.some, ok.short, ok.first, fun v hv => ok.good v (List.mem_filter.1 hv).1, ok.sorted.sublist List.filter_sublist⟩
theorem early_all {l : List Vote} {tr : List Bool} {at_ : Int} (h : stateF l tr at_ = ⟨0, 0⟩) :
    stateF (l.filter (fun v => decide (v.rev ≤ at_))) tr at_ = ⟨0, 0⟩ ∧ curL (l.filter (fun v => decide (v.rev ≤ at_))) tr at_ = curL l tr at_ ∧ lapL (l.filter (fun v => decide (v.rev ≤ at_))) tr at_ = lapL l tr at_ := by
  obtain ⟨ok, h0, h1⟩ := stateF_ok l tr at_ h
  obtain ⟨a, rfl⟩ := Int.eq_ofNat_of_zero_le h0
  have h2 : stateF (l.filter (fun v => decide (v.rev ≤ (a : Int)))) tr a = ⟨0, 0⟩ := (stateF_ok_iff _ _ _).2 ⟨early_ok _ ok, h0, h1⟩
  have hs : statesOf (l.filter (fun v => decide (v.rev ≤ (a : Int)))) tr a = statesOf l tr a := early_states tr a l _
  refine ⟨h2, ?_, ?_⟩
  · rw [curL, curL, if_pos h2, if_pos h, Int.toNat_natCast, hs]
  · rw [lapL, lapL, if_pos h2, if_pos h, Int.toNat_natCast, hs]
theorem stateF_same {l : List Vote} {tr : List Bool} {at_ : Int} (h : (validate l tr).code = 0 → 0 ≤ at_ ∧ at_ < tr.length) : stateF l tr at_ = validate l tr := by
  unfold stateF
  by_cases h1 : validate l tr = ⟨0, 0⟩
  · have := h (by rw [h1])
    rw [if_neg (by simp [h1]), if_neg (by omega), h1]
  · rw [if_pos h1]
theorem stateF_range {l : List Vote} {tr : List Bool} {at_ : Int} (h : (validate l tr).code = 0) (h2 : at_ < 0 ∨ (tr.length : Int) ≤ at_) : stateF l tr at_ = ⟨3, -3⟩ := by
  unfold stateF
  rw [if_neg (by simp [validate_code l tr h]), if_pos h2]
theorem last_at {l : List Vote} {tr : List Bool} {at_ user value : Int} (h1 : stateF l tr at_ = ⟨0, 0⟩) (h2 : stateF (l ++ [⟨user, at_, value⟩]) tr at_ = ⟨0, 0⟩) (k : Nat) (hk : k < 8)
    (ha : k < (curL l tr at_).length) (hb : k < (curL (l ++ [⟨user, at_, value⟩]) tr at_).length) : (curL (l ++ [⟨user, at_, value⟩]) tr at_)[k] = if (k : Int) = user then value else (curL l tr at_)[k] := by
  obtain ⟨_, h0, _⟩ := stateF_ok l tr at_ h1
  obtain ⟨a, rfl⟩ := Int.eq_ofNat_of_zero_le h0
  have := last_new l tr a user value h1 h2 k hk
  rw [List.getElem?_eq_getElem ha, List.getElem?_eq_getElem hb] at this
  split at this <;> rename_i h <;> simp_all
theorem curL_len_at {l : List Vote} {tr : List Bool} {at_ : Int} (h : stateF l tr at_ = ⟨0, 0⟩) : (curL l tr at_).length = 8 := by
  rw [curL, if_pos h, List.length_map, statesOf_len]
theorem keeps_at {l : List Vote} {tr : List Bool} {same : Bool} (h1 : stateF l tr ((tr.length : Int) - 1) = ⟨0, 0⟩) (h2 : stateF l (tr ++ [same]) ((tr.length : Int) - 1 + 1) = ⟨0, 0⟩) (k : Nat) (hk : k < 8)
    (ha : k < (curL l tr ((tr.length : Int) - 1)).length) (hb : k < (curL l (tr ++ [same]) ((tr.length : Int) - 1 + 1)).length) :
    (curL l (tr ++ [same]) ((tr.length : Int) - 1 + 1))[k] = if same = true ∨ (curL l tr ((tr.length : Int) - 1))[k] = -2 then (curL l tr ((tr.length : Int) - 1))[k] else 0 := by
  obtain ⟨_, h0, _⟩ := stateF_ok l tr _ h1
  obtain ⟨a, e1⟩ := Int.eq_ofNat_of_zero_le h0
  have e2 : (tr.length : Int) - 1 + 1 = ((a + 1 : Nat) : Int) := by omega
  have key : ∀ (p q : Int) (_ : p = (a : Int)) (_ : q = ((a + 1 : Nat) : Int)) (h1 : stateF l tr p = ⟨0, 0⟩) (h2 : stateF l (tr ++ [same]) q = ⟨0, 0⟩) (ha : k < (curL l tr p).length) (hb : k < (curL l (tr ++ [same]) q).length),
      (curL l (tr ++ [same]) q)[k] = if same = true ∨ (curL l tr p)[k] = -2 then (curL l tr p)[k] else 0 := by
    rintro p q rfl rfl h1 h2 ha hb
    obtain ⟨x, y, hx, hy, he⟩ := keeps_vetoes l tr same a (by omega) h1 h2 k hk
    rw [List.getElem?_eq_getElem ha] at hx
    rw [List.getElem?_eq_getElem hb] at hy
    injection hx with hx
    injection hy with hy
    rw [hx, hy]; exact he
  exact key _ _ e1 e2 h1 h2 ha hb
theorem refs_ok {l : List Vote} {tr : List Bool} {a : Nat} (h : stateF l tr a = ⟨0, 0⟩) : curL l tr a = refCur l tr a 8 ∧ lapL l tr a = refLap l tr a 8 ∧ scoreN l tr a = isum (refCur l tr a 8) ∧ scoreV l tr a = (refCur l tr a 8).any (fun n => decide (n = -2)) := by
  obtain ⟨ok, _, _⟩ := stateF_ok l tr a h
  have h1 : curL l tr a = refCur l tr a 8 := by rw [curL, if_pos h, Int.toNat_natCast, cur_ref l tr a (ok_user ok)]
  refine ⟨h1, ?_, by rw [scoreN, h1], by rw [scoreV, h1]⟩
  rw [lapL, if_pos h, Int.toNat_natCast, lapIdx_ref l tr a (ok_user ok) 8 (Nat.le_refl _)]
theorem refs_no {l : List Vote} {tr : List Bool} {at_ : Int} (h : ¬ stateF l tr at_ = ⟨0, 0⟩) : curL l tr at_ = [] ∧ lapL l tr at_ = [] ∧ scoreN l tr at_ = 0 ∧ scoreV l tr at_ = false := by
  have h1 : curL l tr at_ = [] := by rw [curL, if_neg h]
  exact ⟨h1, by rw [lapL, if_neg h], by rw [scoreN, h1]; rfl, by rw [scoreV, h1]; rfl⟩
theorem swap_list {α : Type} {l : List α} {k : Nat} (h : k + 1 < l.length) : ∃ x y, l = x ++ l[k] :: l[k + 1] :: y ∧ (l.set k l[k + 1]).set (k + 1) l[k] = x ++ l[k + 1] :: l[k] :: y := by
  refine ⟨l.take k, l.drop (k + 2), ?_, ?_⟩
  · rw [← List.drop_eq_getElem_cons, ← List.drop_eq_getElem_cons, List.take_append_drop]
  · apply List.ext_getElem?
    intro j
    rw [List.getElem?_set, List.getElem?_set, List.getElem?_append]
    have hl : (l.take k).length = k := by rw [List.length_take]; omega
    rw [hl]
    by_cases h1 : j < k
    · rw [if_pos h1, if_neg (by omega), if_neg (by omega), List.getElem?_take_of_lt h1]
    · rw [if_neg h1]
      obtain ⟨m, rfl⟩ : ∃ m, j = k + m := ⟨j - k, by omega⟩
      rw [Nat.add_sub_cancel_left]
      match m with
      | 0 => simp; omega
      | 1 => simp; omega
      | m + 2 => rw [if_neg (by omega), if_neg (by omega)]; simp; congr 1; omega
theorem swap_set {l : List Vote} {tr : List Bool} {at_ : Int} {k : Nat} (h : k + 1 < l.length) (hu : l[k].user ≠ l[k + 1].user) (hr : l[k].rev = l[k + 1].rev) :
    curL l tr at_ = curL ((l.set k l[k + 1]).set (k + 1) l[k]) tr at_ ∧ (stateF l tr at_ = ⟨0, 0⟩ ↔ stateF ((l.set k l[k + 1]).set (k + 1) l[k]) tr at_ = ⟨0, 0⟩) := by
  obtain ⟨x, y, e1, e2⟩ := swap_list h
  rw [e2]
  have := swap_cur (x := x) (y := y) (tr := tr) (at_ := at_) hu hr
  rw [← e1] at this
  exact this
theorem code_iff {l : List Vote} {tr : List Bool} {at_ : Int} : (stateF l tr at_).code = 0 ↔ stateF l tr at_ = ⟨0, 0⟩ := ⟨stateF_code, fun h => by rw [h]⟩
end Go.Cf.Votes
