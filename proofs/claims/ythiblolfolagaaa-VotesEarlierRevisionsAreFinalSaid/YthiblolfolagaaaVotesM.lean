/- Votes: the plain functions that the Go functions compute, and lemmas on them. No program in sight. -/
import Derived.Test.YthiblolfolagaaaPlain
namespace Go.Cf

structure Vote where
  user : Int
  rev : Int
  val : Int
  deriving DecidableEq
abbrev voteCells (v : Vote) : List Value := [.int .i64 v.user, .int .i64 v.rev, .int .i64 v.val]
theorem wide_vote : Wide voteCells 3 := fun _ => ⟨rfl, by simp [voteCells, Value.oneCell']⟩

namespace Votes
def Bad (n : Nat) (v : Vote) : Prop := v.user < 0 ∨ 7 < v.user ∨ v.rev < 0 ∨ (n : Int) ≤ v.rev ∨ v.val < -2 ∨ 2 < v.val
instance (n : Nat) (v : Vote) : Decidable (Bad n v) := by unfold Bad; infer_instance
def valGo (n : Nat) : Nat → Int → List Vote → Fault
  | _, _, [] => ⟨0, 0⟩
  | i, prev, v :: l => if Bad n v then ⟨3, i⟩ else if v.rev < prev then ⟨5, i⟩ else valGo n (i + 1) v.rev l
def validate (l : List Vote) (tr : List Bool) : Fault :=
  if 40 < l.length then ⟨2, -1⟩ else if tr.length = 0 ∨ 12 < tr.length then ⟨9, -2⟩ else if tr.getD 0 false = true then ⟨5, -2⟩ else valGo tr.length 0 0 l
def prevRev (l : List Vote) (k : Nat) : Int := if k = 0 then 0 else (l.getD (k - 1) ⟨0, 0, 0⟩).rev

theorem valGo_step (n : Nat) (l : List Vote) (k : Nat) (p : Int) (h : k < l.length) :
    valGo n k p (l.drop k) = if Bad n l[k] then ⟨3, k⟩ else if l[k].rev < p then ⟨5, k⟩ else valGo n (k + 1) l[k].rev (l.drop (k + 1)) := by
  rw [List.drop_eq_getElem_cons h]; rfl
theorem prevRev_succ (l : List Vote) (k : Nat) (h : k < l.length) : prevRev l (k + 1) = l[k].rev := by
  simp [prevRev, h]
theorem prevRev_at (l : List Vote) (k : Nat) (h0 : 0 < k) (h : k - 1 < l.length) : prevRev l k = (l[k - 1]).rev := by
  simp [prevRev, h, Nat.ne_of_gt h0]

/-- what is known of a valid list -/
theorem valGo_ok (n : Nat) : ∀ (l : List Vote) (k : Nat) (p : Int), valGo n k p l = ⟨0, 0⟩ → (∀ v ∈ l, ¬ Bad n v) ∧ l.Pairwise (fun a b => a.rev ≤ b.rev) ∧ ∀ v ∈ l, p ≤ v.rev
  | [], _, _, _ => by simp
  | v :: l, k, p, h => by
    unfold valGo at h
    split at h
    · injection h with h1; omega
    · rename_i hb
      split at h
      · injection h with h1; omega
      · rename_i hp
        obtain ⟨h1, h2, h3⟩ := valGo_ok n l (k + 1) v.rev h
        refine ⟨?_, ?_, ?_⟩
        · intro u hu
          rcases List.mem_cons.1 hu with rfl | hu
          · exact hb
          · exact h1 u hu
        · rw [List.pairwise_cons]; exact ⟨h3, h2⟩
        · intro u hu
          rcases List.mem_cons.1 hu with rfl | hu
          · omega
          · have := h3 u hu; omega
theorem valGo_code (n : Nat) : ∀ (l : List Vote) (k : Nat) (p : Int), (valGo n k p l).code = 0 → valGo n k p l = ⟨0, 0⟩
  | [], _, _, _ => rfl
  | v :: l, k, p, h => by
    unfold valGo at h ⊢
    split
    · rename_i hb; rw [if_pos hb] at h; cases h
    · rename_i hb
      rw [if_neg hb] at h
      split
      · rename_i hp; rw [if_pos hp] at h; cases h
      · rename_i hp; rw [if_neg hp] at h; exact valGo_code n l _ _ h
theorem validate_code (l : List Vote) (tr : List Bool) (h : (validate l tr).code = 0) : validate l tr = ⟨0, 0⟩ := by
  unfold validate at h ⊢
  split
  · rename_i hb; rw [if_pos hb] at h; cases h
  · rename_i hb
    rw [if_neg hb] at h
    split
    · rename_i hp; rw [if_pos hp] at h; cases h
    · rename_i hp
      rw [if_neg hp] at h
      split
      · rename_i hq; rw [if_pos hq] at h; cases h
      · rename_i hq; rw [if_neg hq] at h; exact valGo_code _ l _ _ h
structure Ok (l : List Vote) (tr : List Bool) : Prop where
  few : l.length ≤ 40
  some : 0 < tr.length
  short : tr.length ≤ 12
  first : tr.getD 0 false = false
  good : ∀ v ∈ l, ¬ Bad tr.length v
  sorted : l.Pairwise (fun a b => a.rev ≤ b.rev)
theorem ok_of (l : List Vote) (tr : List Bool) (h : validate l tr = ⟨0, 0⟩) : Ok l tr := by
  unfold validate at h
  split at h
  · injection h with h1; omega
  · split at h
    · injection h with h1; omega
    · split at h
      · injection h with h1; omega
      · rename_i h1 h2 h3
        obtain ⟨g1, g2, _⟩ := valGo_ok _ l 0 0 h
        exact ⟨by omega, by omega, by omega, by simpa using h3, g1, g2⟩

/-- states -/
def cnt (tr : List Bool) (at_ : Nat) (v : Vote) : Bool := ((tr.drop (v.rev.toNat + 1)).take (at_ - v.rev.toNat)).all id
def stepSt (tr : List Bool) (at_ : Nat) (out : List (Int × Bool)) (v : Vote) : List (Int × Bool) :=
  if (at_ : Int) < v.rev then out else out.set v.user.toNat (v.val, cnt tr at_ v || decide (v.val = -2))
def statesOf (l : List Vote) (tr : List Bool) (at_ : Nat) : List (Int × Bool) := l.foldl (stepSt tr at_) (List.replicate 8 (0, false))
abbrev stCells (s : Int × Bool) : List Value := [.int .i64 s.1, .bool s.2]
theorem wide_st : Wide stCells 2 := fun _ => ⟨rfl, by simp [stCells, Value.oneCell']⟩
theorem foldl_len (tr : List Bool) (at_ : Nat) : ∀ (l : List Vote) (o : List (Int × Bool)), (l.foldl (stepSt tr at_) o).length = o.length
  | [], _ => rfl
  | v :: l, o => by
    rw [List.foldl_cons, foldl_len tr at_ l]
    unfold stepSt; split <;> simp
theorem statesOf_len (l : List Vote) (tr : List Bool) (at_ : Nat) : (statesOf l tr at_).length = 8 := by
  unfold statesOf; rw [foldl_len]; rfl
theorem foldl_take_succ {β : Type} (f : β → Vote → β) (b : β) (l : List Vote) (k : Nat) (h : k < l.length) : (l.take (k + 1)).foldl f b = f ((l.take k).foldl f b) l[k] := by
  rw [List.take_succ_eq_append_getElem h, List.foldl_append]; rfl

def stateF (l : List Vote) (tr : List Bool) (at_ : Int) : Fault :=
  if validate l tr ≠ ⟨0, 0⟩ then validate l tr else if at_ < 0 ∨ (tr.length : Int) ≤ at_ then ⟨3, -3⟩ else ⟨0, 0⟩
def stateL (l : List Vote) (tr : List Bool) (at_ : Int) : List (Int × Bool) := if stateF l tr at_ = ⟨0, 0⟩ then statesOf l tr at_.toNat else List.replicate 8 (0, false)
theorem stateL_len (l : List Vote) (tr : List Bool) (at_ : Int) : (stateL l tr at_).length = 8 := by
  unfold stateL; split
  · exact statesOf_len _ _ _
  · rfl
def curOf (s : Int × Bool) : Int := if s.2 then s.1 else 0
def curL (l : List Vote) (tr : List Bool) (at_ : Int) : List Int := if stateF l tr at_ = ⟨0, 0⟩ then (statesOf l tr at_.toNat).map curOf else []
def lapIdx (ss : List (Int × Bool)) (k : Nat) : List Int := ((ss.zipIdx.take k).filter (fun p => decide (p.1.1 ≠ 0) && !p.1.2)).map (fun p => (p.2 : Int))
def lapL (l : List Vote) (tr : List Bool) (at_ : Int) : List Int := if stateF l tr at_ = ⟨0, 0⟩ then lapIdx (statesOf l tr at_.toNat) 8 else []
def isum (l : List Int) : Int := l.foldl (· + ·) 0
def scoreN (l : List Vote) (tr : List Bool) (at_ : Int) : Int := isum (curL l tr at_)
def scoreV (l : List Vote) (tr : List Bool) (at_ : Int) : Bool := (curL l tr at_).any (fun n => decide (n = -2))
def lastVote (l : List Vote) (u at_ : Int) : Vote := ((l.filter (fun v => decide (v.user = u) && decide (v.rev ≤ at_))).getLast?).getD ⟨u, at_, 0⟩
def counts (tr : List Bool) (at_ : Nat) (v : Vote) : Bool := decide (v.val = -2) || cnt tr at_ v
theorem all_take_succ (l : List Bool) (k : Nat) (h : k < l.length) : (l.take (k + 1)).all id = ((l.take k).all id && l[k]) := by
  rw [List.take_succ_eq_append_getElem h, List.all_append]; simp
theorem cnt_cut (tr : List Bool) (at_ : Nat) (v : Vote) (h0 : 0 ≤ v.rev) : cnt tr at_ v = ((tr.drop (v.rev + 1).toNat).take (((at_ : Int) + 1).toNat - (v.rev + 1).toNat)).all id := by
  unfold cnt
  have e1 : (v.rev + 1).toNat = v.rev.toNat + 1 := by omega
  have e2 : ((at_ : Int) + 1).toNat - (v.rev.toNat + 1) = at_ - v.rev.toNat := by omega
  rw [e1, e2]
theorem isum_snoc (l : List Int) (x : Int) : isum (l ++ [x]) = isum l + x := by unfold isum; rw [List.foldl_append]; rfl
theorem isum_take (l : List Int) (k : Nat) (h : k < l.length) : isum (l.take (k + 1)) = isum (l.take k) + l[k] := by
  rw [List.take_succ_eq_append_getElem h, isum_snoc]
theorem isum_bd (l : List Int) (hb : ∀ x ∈ l, -2 ≤ x ∧ x ≤ 2) : ∀ k : Nat, -2 * (k : Int) ≤ isum (l.take k) ∧ isum (l.take k) ≤ 2 * (k : Int)
  | 0 => by simp [isum]
  | k + 1 => by
    have ih := isum_bd l hb k
    by_cases h : k < l.length
    · rw [isum_take l k h]
      have := hb _ (List.getElem_mem h)
      omega
    · have e : l.take (k + 1) = l.take k := by rw [List.take_of_length_le (by omega), List.take_of_length_le (by omega)]
      rw [e]; omega
theorem foldl_bd (tr : List Bool) (at_ : Nat) : ∀ (l : List Vote) (o : List (Int × Bool)), (∀ v ∈ l, -2 ≤ v.val ∧ v.val ≤ 2) → (∀ s ∈ o, -2 ≤ s.1 ∧ s.1 ≤ 2) → ∀ s ∈ l.foldl (stepSt tr at_) o, -2 ≤ s.1 ∧ s.1 ≤ 2
  | [], _, _, h => h
  | v :: l, o, hl, ho => by
    rw [List.foldl_cons]
    refine foldl_bd tr at_ l _ (fun u hu => hl u (by simp [hu])) ?_
    intro s hs
    unfold stepSt at hs
    split at hs
    · exact ho s hs
    · rcases List.mem_or_eq_of_mem_set hs with hs | rfl
      · exact ho s hs
      · exact hl v (by simp)
theorem stateF_ok (l : List Vote) (tr : List Bool) (at_ : Int) (h : stateF l tr at_ = ⟨0, 0⟩) : Ok l tr ∧ 0 ≤ at_ ∧ at_ < tr.length := by
  unfold stateF at h
  split at h
  · rename_i h1; exact absurd h h1
  · rename_i h1
    split at h
    · injection h with h2; omega
    · exact ⟨ok_of l tr (by simpa using h1), by omega, by omega⟩
theorem states_bd (l : List Vote) (tr : List Bool) (at_ : Nat) (ok : Ok l tr) : ∀ s ∈ statesOf l tr at_, -2 ≤ s.1 ∧ s.1 ≤ 2 := by
  refine foldl_bd tr at_ l _ (fun v hv => ?_) (fun s hs => ?_)
  · have := ok.good v hv; unfold Bad at this; omega
  · rw [List.mem_replicate] at hs; rw [hs.2]; simp
theorem curL_bd (l : List Vote) (tr : List Bool) (at_ : Int) : ∀ x ∈ curL l tr at_, -2 ≤ x ∧ x ≤ 2 := by
  unfold curL
  split
  · rename_i h
    obtain ⟨ok, _, _⟩ := stateF_ok l tr at_ h
    intro x hx
    obtain ⟨s, hs, rfl⟩ := List.mem_map.1 hx
    have := states_bd l tr at_.toNat ok s hs
    unfold curOf; split <;> omega
  · intro x hx; cases hx
theorem curL_len (l : List Vote) (tr : List Bool) (at_ : Int) : (curL l tr at_).length ≤ 8 := by
  unfold curL
  split
  · rw [List.length_map, statesOf_len]; omega
  · simp
theorem lapIdx_succ (ss : List (Int × Bool)) (k : Nat) (h : k < ss.length) : lapIdx ss (k + 1) = if ss[k].1 ≠ 0 ∧ ss[k].2 = false then lapIdx ss k ++ [(k : Int)] else lapIdx ss k := by
  have hz : k < ss.zipIdx.length := by simpa using h
  unfold lapIdx
  rw [List.take_succ_eq_append_getElem hz, List.filter_append, List.map_append]
  have e : ss.zipIdx[k] = (ss[k], k) := by simp
  rw [e]
  by_cases h1 : ss[k].1 = 0 <;> cases h2 : ss[k].2 <;> simp [h1, h2]
theorem lapIdx_len (ss : List (Int × Bool)) (k : Nat) : (lapIdx ss k).length ≤ k := by
  unfold lapIdx
  rw [List.length_map]
  exact Nat.le_trans (List.length_filter_le _ _) (List.length_take_le _ _)
end Votes
end Go.Cf
