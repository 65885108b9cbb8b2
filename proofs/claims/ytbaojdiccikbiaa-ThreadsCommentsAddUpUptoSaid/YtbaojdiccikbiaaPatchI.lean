/- The inverse of a patch: plain facts. Program independent. -/
import Derived.Test.YtbaojdiccikbiaaPatchT
import Derived.Test.YtbaojdiccikbiaaLibL
namespace Go.Cf
open Go.RowKit
def gsum (hs : List Hunk) : Nat → Int
  | 0 => 0
  | k + 1 => gsum hs k + match hs[k]? with
    | some h => h.growth
    | none => 0
theorem gsum_succ {hs : List Hunk} {k : Nat} (h : k < hs.length) : gsum hs (k + 1) = gsum hs k + hs[k].growth := by
  rw [gsum, List.getElem?_eq_getElem h]
def swapH (g : Int) (h : Hunk) : Hunk := ⟨h.at_ + g, h.new, h.old⟩
def inv (hs : List Hunk) : List Hunk := hs.mapIdx fun k h => swapH (gsum hs k) h
theorem inv_len (hs : List Hunk) : (inv hs).length = hs.length := by simp [inv]
theorem inv_at {hs : List Hunk} {k : Nat} (h : k < hs.length) : (inv hs)[k]'(by rw [inv_len]; exact h) = swapH (gsum hs k) hs[k] := by simp [inv]
theorem gsum_bd {hs : List Hunk} (hb : ∀ h ∈ hs, HB h) : ∀ k, k ≤ hs.length → -(120 * (k : Int)) ≤ gsum hs k ∧ gsum hs k ≤ 120 * (k : Int)
  | 0, _ => by simp [gsum]
  | k + 1, h => by
    have ih := gsum_bd hb k (by omega)
    have hk : k < hs.length := by omega
    have h1 := hb _ (List.getElem_mem hk)
    have e1 := h1.old
    have e2 := h1.new
    rw [gsum_succ hk]; unfold Hunk.growth; omega
/-- hunks before a line -/
theorem place_skip {hs : List Hunk} {line : Int} : ∀ k, k ≤ hs.length → (∀ j (h : j < hs.length), j < k → hs[j].end_ ≤ line) → place hs line 0 = place (hs.drop k) line (gsum hs k)
  | 0, _, _ => by simp [gsum]
  | k + 1, hk, h => by
    have hlt : k < hs.length := by omega
    rw [place_skip k (by omega) (fun j hj hjk => h j hj (by omega)), place_drop hlt, gsum_succ hlt]
    have h1 := h k hlt (by omega)
    have h2 : hs[k].at_ ≤ hs[k].end_ := by unfold Hunk.end_; omega
    rw [if_neg (by omega), if_neg (by omega)]
theorem PV.before {hs : List Hunk} (v : PV hs) : ∀ k (h : k < hs.length) j (hj : j < hs.length), j < k → hs[j].end_ < hs[k].at_
  | 0, _, _, _, h => absurd h (by omega)
  | k + 1, h, j, hj, hjk => by
    have hk : k < hs.length := by omega
    have h1 := (v.at_ (k + 1) h).past
    rw [PV.prev hk] at h1
    rcases Nat.lt_or_ge j k with h2 | h2
    · have := v.before k hk j hj h2
      have e : hs[k].at_ ≤ hs[k].end_ := by unfold Hunk.end_; omega
      omega
    · obtain rfl : j = k := by omega
      exact h1
theorem place_hunk {hs : List Hunk} (v : PV hs) {k : Nat} (h : k < hs.length) : (place hs hs[k].at_ 0).1 = hs[k].at_ + gsum hs k + if hs[k].old.length = 0 then (hs[k].new.length : Int) else 0 := by
  rw [place_skip k (by omega) (fun j hj hjk => Int.le_of_lt (v.before k h j hj hjk)), place_drop h, if_neg (by omega)]
  by_cases h0 : hs[k].old.length = 0
  · rw [if_neg (by unfold Hunk.end_; omega), if_pos h0]
    have hg : hs[k].growth = hs[k].new.length := by unfold Hunk.growth; omega
    rcases Nat.lt_or_ge (k + 1) hs.length with h1 | h1
    · rw [place_drop h1, if_pos]
      · simp only; omega
      · have := v.before (k + 1) h1 k h (by omega)
        have e : hs[k].at_ ≤ hs[k].end_ := by unfold Hunk.end_; omega
        omega
    · rw [List.drop_eq_nil_of_le h1, place]; simp only; omega
  · rw [if_pos (by unfold Hunk.end_; omega), if_neg h0]; simp
/-- the ends of an inverse -/
theorem inv_end {hs : List Hunk} {k : Nat} (h : k < hs.length) : ((inv hs)[k]'(by rw [inv_len]; exact h)).end_ = hs[k].end_ + gsum hs (k + 1) := by
  rw [inv_at h, gsum_succ h]; simp only [swapH, Hunk.end_, Hunk.growth]; omega
theorem inv_past {hs : List Hunk} (v : PV hs) : ∀ k (h : k < hs.length), prevEnd (inv hs) k < hs[k].at_ + gsum hs k ∧ 0 ≤ hs[k].at_ + gsum hs k
  | 0, h => by have := (v.at_ 0 h).lo; simp only [prevEnd, gsum]; omega
  | k + 1, h => by
    have hk : k < hs.length := by omega
    have ih := inv_past v k hk
    have h1 := v.before (k + 1) h k hk (by omega)
    have e1 := inv_end hk
    have e2 := PV.prev (hs := inv hs) (k := k) (by rw [inv_len]; exact hk)
    have e3 := gsum_succ hk
    have e4 : hs[k].end_ = hs[k].at_ + hs[k].old.length := rfl
    have e5 : hs[k].growth = hs[k].new.length - hs[k].old.length := rfl
    rw [e2, e1]; omega
def invOk (hs : List Hunk) : Bool := (inv hs).all fun h => decide (h.end_ ≤ 120)
theorem inv_valid {hs : List Hunk} (v : PV hs) : PV (inv hs) ↔ invOk hs = true := by
  unfold invOk
  constructor
  · intro vi
    rw [List.all_eq_true]
    intro h hh
    obtain ⟨k, hk, rfl⟩ := List.getElem_of_mem hh
    simpa using (vi.at_ k hk).end_
  · intro ho
    rw [List.all_eq_true] at ho
    refine ⟨by rw [inv_len]; exact v.len, fun k hk => ?_⟩
    have hk' : k < hs.length := by rwa [inv_len] at hk
    have hv := v.at_ k hk'
    have h1 := inv_past v k hk'
    have h2 := ho _ (List.getElem_mem hk)
    simp only [decide_eq_true_eq] at h2
    rw [inv_at hk'] at h2 ⊢
    simp only [swapH, Hunk.end_] at h2
    refine ⟨?_, ?_, hv.new, hv.old, ?_, ?_, ?_⟩ <;> simp only [swapH, Hunk.end_] <;> first | omega | (have := hv.some_; omega)
/-- what Invert hands back -/
def invF (hs : List Hunk) : Fault := if patchF hs ≠ ⟨0, 0⟩ then patchF hs else if invOk hs = true then ⟨0, 0⟩ else ⟨10, -1⟩
def invR (hs : List Hunk) : List Hunk := if invF hs = ⟨0, 0⟩ then inv hs else []
def backF (hs : List Hunk) (line : Int) : Fault := if invF hs ≠ ⟨0, 0⟩ then invF hs else mapF (inv hs) line
def backV (hs : List Hunk) (line : Int) : Int × Bool := if invF hs ≠ ⟨0, 0⟩ then (0, false) else mapV (inv hs) line
theorem invF_ok {hs : List Hunk} (h : invF hs = ⟨0, 0⟩) : PV hs ∧ PV (inv hs) := by
  unfold invF at h
  by_cases h1 : patchF hs ≠ ⟨0, 0⟩
  · rw [if_pos h1] at h; exact absurd h h1
  · rw [if_neg h1] at h
    have v := patchF_ok.1 (Decidable.not_not.1 h1)
    by_cases h2 : invOk hs = true
    · exact ⟨v, (inv_valid v).2 h2⟩
    · rw [if_neg h2] at h; cases h
theorem place_ge : ∀ (hs : List Hunk) (line g e : Int), chain e hs → e ≤ line → e + g ≤ (place hs line g).1
  | [], line, g, e, _, h2 => by simp only [place]; omega
  | h :: t, line, g, e, hc, h2 => by
    have hc1 := hc.1
    rw [place]
    split
    · simp only; omega
    · split
      · simp only; omega
      · have := place_ge t line (g + h.growth) h.end_ hc.2 (by omega)
        have e1 : h.end_ = h.at_ + h.old.length := rfl
        have e2 : h.growth = h.new.length - h.old.length := rfl
        omega
def invG : Int → List Hunk → List Hunk
  | _, [] => []
  | g, h :: t => swapH g h :: invG (g + h.growth) t
theorem place_back : ∀ (hs : List Hunk) (line g e : Int), chain e hs → e ≤ line → (place hs line g).2 = true → place (invG g hs) (place hs line g).1 (-g) = (line, true)
  | [], line, g, e, _, _, _ => by simp only [place, invG]; rw [show line + g + -g = line by omega]
  | h :: t, line, g, e, hc, h2, hk => by
    rw [place] at hk ⊢
    rw [invG, place]
    by_cases h3 : line < h.at_
    · rw [if_pos h3]
      have e5 : (swapH g h).at_ = h.at_ + g := rfl
      dsimp only
      rw [if_pos (by omega), show line + g + -g = line by omega]
    · rw [if_neg h3] at hk ⊢
      by_cases h4 : line < h.end_
      · rw [if_pos h4] at hk; cases hk
      · rw [if_neg h4] at hk ⊢
        have ih := place_back t line (g + h.growth) h.end_ hc.2 (by omega) hk
        have hge := place_ge t line (g + h.growth) h.end_ hc.2 (by omega)
        have e1 : h.end_ = h.at_ + h.old.length := rfl
        have e2 : h.growth = h.new.length - h.old.length := rfl
        have e3 : (swapH g h).end_ = h.at_ + g + h.new.length := rfl
        have e4 : (swapH g h).growth = h.old.length - h.new.length := rfl
        have e5 : (swapH g h).at_ = h.at_ + g := rfl
        rw [if_neg (by omega), if_neg (by omega), show -g + (swapH g h).growth = -(g + h.growth) by omega]
        exact ih
theorem gsum_cons (h : Hunk) (t : List Hunk) : ∀ k, gsum (h :: t) (k + 1) = h.growth + gsum t k
  | 0 => by simp [gsum]
  | k + 1 => by
    rw [gsum, gsum_cons h t k, gsum]
    simp only [List.getElem?_cons_succ]
    omega
theorem invG_eq : ∀ (hs : List Hunk) (g : Int), invG g hs = hs.mapIdx fun k h => swapH (g + gsum hs k) h
  | [], _ => by simp [invG]
  | h :: t, g => by
    rw [invG, invG_eq t, List.mapIdx_cons]
    congr 1
    · simp [gsum]
    · apply List.mapIdx_eq_mapIdx_iff.2
      intro k hk
      rw [gsum_cons, Int.add_assoc]
theorem inv_eq (hs : List Hunk) : inv hs = invG 0 hs := by rw [invG_eq]; simp [inv]
theorem back_forth {hs : List Hunk} (v : PV hs) {line : Int} (h0 : 0 ≤ line) (hk : (place hs line 0).2 = true) : place (inv hs) (place hs line 0).1 0 = (line, true) := by
  rw [inv_eq]; exact place_back hs line 0 0 v.chain h0 hk

/-- with where the lines lie -/
def swapC (g : Int) (h : HunkC) : HunkC := ⟨swapH g h.pl, h.nA, h.nc, h.oA, h.oc⟩
def invC (hs : List HunkC) : List HunkC := hs.mapIdx fun k h => swapC (gsum (pls hs) k) h
theorem invC_len (hs : List HunkC) : (invC hs).length = hs.length := by simp [invC]
theorem pls_invC (hs : List HunkC) : pls (invC hs) = inv (pls hs) := by
  simp only [pls, invC, inv]
  apply List.ext_getElem
  · simp
  · intro k h1 h2; simp [swapC]
theorem swapC_R {w : World} {lo : Nat} {h : HunkC} {g : Int} (hR : HunkR w lo h) (hi : In64 (h.pl.at_ + g)) : HunkR w lo (swapC g h) := ⟨hR.new, hR.old, hR.nb, hR.ob, hi⟩
/-- the first k hunks inverted -/
def invK (hs : List HunkC) (k : Nat) : List HunkC := (invC hs).take k ++ hs.drop k
theorem invK_zero (hs : List HunkC) : invK hs 0 = hs := by simp [invK]
theorem invK_all (hs : List HunkC) {k : Nat} (h : hs.length ≤ k) : invK hs k = invC hs := by
  rw [invK, List.drop_eq_nil_of_le h, List.append_nil, List.take_of_length_le (by rw [invC_len]; exact h)]
theorem invK_len (hs : List HunkC) {k : Nat} (h : k ≤ hs.length) : (invK hs k).length = hs.length := by
  simp only [invK, List.length_append, List.length_take, List.length_drop, invC_len]; omega
theorem invK_at {hs : List HunkC} {k : Nat} (h : k < hs.length) : (invK hs k)[k]? = some hs[k] := by
  rw [invK, List.getElem?_append_right (by simp [invC_len]; omega)]
  simp only [List.length_take, invC_len]
  rw [show k - min k hs.length = 0 by omega, List.getElem?_drop, Nat.add_zero, List.getElem?_eq_getElem h]
theorem invK_set {hs : List HunkC} {k : Nat} (h : k < hs.length) : (invK hs k).set k (swapC (gsum (pls hs) k) hs[k]) = invK hs (k + 1) := by
  have e : (invC hs)[k]'(by rw [invC_len]; exact h) = swapC (gsum (pls hs) k) hs[k] := by simp [invC]
  rw [invK, invK, List.take_succ_eq_append_getElem (by rw [invC_len]; exact h), List.drop_eq_getElem_cons h, e, List.set_append_right _ _ (by simp [invC_len]; omega)]
  simp only [List.length_take, invC_len]
  rw [show k - min k hs.length = 0 by omega, List.set_cons_zero, List.append_assoc]; rfl
end Go.Cf
namespace Go.Cf
def okK (hs : List Hunk) (k : Nat) : Bool := ((inv hs).take k).all fun h => decide (h.end_ ≤ 120)
theorem okK_zero (hs : List Hunk) : okK hs 0 = true := by simp [okK]
theorem okK_all (hs : List Hunk) {k : Nat} (h : hs.length ≤ k) : okK hs k = invOk hs := by rw [okK, List.take_of_length_le (by rw [inv_len]; exact h)]; rfl
theorem okK_succ {hs : List Hunk} {k : Nat} (h : k < hs.length) : okK hs (k + 1) = (okK hs k && decide (hs[k].at_ + gsum hs k + hs[k].new.length ≤ 120)) := by
  have hk : k < (inv hs).length := by rw [inv_len]; exact h
  have e : (inv hs)[k].end_ = hs[k].at_ + gsum hs k + hs[k].new.length := by rw [inv_at h]; rfl
  rw [okK, List.take_succ_eq_append_getElem hk, List.all_append, okK, ← e]; simp
end Go.Cf
namespace Go.Cf
open Go.RowKit
theorem invF_if {hs : List Hunk} (h : patchF hs = ⟨0, 0⟩) : invF hs = if patchF (inv hs) = ⟨0, 0⟩ then ⟨0, 0⟩ else ⟨10, -1⟩ := by
  have v := patchF_ok.1 h
  rw [invF, if_neg (by simp [h])]
  by_cases h1 : invOk hs = true
  · rw [if_pos h1, if_pos (patchF_ok.2 ((inv_valid v).2 h1))]
  · rw [if_neg h1, if_neg (fun h2 => h1 ((inv_valid v).1 (patchF_ok.1 h2)))]
theorem SB.none (b : Nat) : SB Option.none 0 0 b := ⟨Nat.le_refl _, by unfold maxLen; omega, fun _ => rfl, by simp⟩
theorem PatR.nil {w : World} {lo : Nat} : PatR w lo none 0 [] := ⟨Rdl.nil, by simp, SB.none _⟩
theorem patR_inv {w : World} {lo0 lo n c : Nat} {e : TypeId} {A : Option Addr} {h1 : List HunkC} (hr : (rowl hunkCells lo e 3 (.slice A n c) (invC h1)).ok w) (he : ∀ h ∈ h1, HunkR w lo0 h) (hlo : lo0 ≤ lo) (v : PV (pls h1)) (hc : h1.length ≤ c) (hm : c ≤ maxLen) (hA : A = none → c = 0) : PatR w lo0 A c (invC h1) := by
  refine ⟨(row_rdl (f := hunkCells) (fun _ => rfl) hr).mono hlo, fun h hh => ?_, ⟨by rw [invC_len]; exact hc, hm, hA, ?_⟩⟩
  · obtain ⟨k, hk, rfl⟩ := List.getElem_of_mem hh
    have hk1 : k < h1.length := by rwa [invC_len] at hk
    have e1 : (invC h1)[k] = swapC (gsum (pls h1) k) h1[k] := by simp [invC]
    have hk2 : k < (pls h1).length := by simpa using hk1
    rw [e1]
    refine swapC_R (he _ (List.getElem_mem hk1)) ?_
    have hB := v.hb k hk2
    rw [List.getElem_map] at hB
    have h2 := gsum_bd v.each k (by omega)
    have h3 := v.len
    have h4 := hB.lo
    have h5 := hB.hi
    simp only [List.length_map] at h3 hk2
    unfold In64; omega
  · rw [invC_len]
    have := v.len
    simp only [List.length_map] at this
    unfold reachBytes; omega
end Go.Cf
namespace Go.Cf
theorem place_bd2 {hs : List Hunk} (v : PV hs) {k : Nat} (h : k < hs.length) : -1000000 ≤ (place hs hs[k].at_ 0).1 ∧ (place hs hs[k].at_ 0).1 ≤ 1000000 := by
  rw [place_hunk v h]
  have h1 := gsum_bd v.each k (by omega)
  have h2 := v.hb k h
  have h3 := v.len
  have e1 := h2.lo
  have e2 := h2.hi
  have e3 := h2.new
  split <;> omega
end Go.Cf
namespace Go.Cf
theorem mapF_zero {hs : List Hunk} {line : Int} (h : (mapF hs line).code = 0) : PV hs ∧ isLine line = true ∧ mapF hs line = ⟨0, 0⟩ ∧ mapV hs line = place hs line 0 := by
  have key : mapF hs line = ⟨0, 0⟩ := by
    unfold mapF at h ⊢
    by_cases h1 : patchF hs ≠ ⟨0, 0⟩
    · rw [if_pos h1] at h; exact absurd (patchF_code h) h1
    · rw [if_neg h1] at h ⊢
      by_cases h2 : isLine line = false
      · rw [if_pos h2] at h; cases h
      · rw [if_neg h2]
  have key' := key
  unfold mapF at key'
  by_cases h1 : patchF hs ≠ ⟨0, 0⟩
  · rw [if_pos h1] at key'; exact absurd key' h1
  · rw [if_neg h1] at key'
    refine ⟨patchF_ok.1 (Decidable.not_not.1 h1), ?_, key, by rw [mapV, if_pos key]⟩
    by_cases h2 : isLine line = false
    · rw [if_pos h2] at key'; cases key'
    · simpa using h2
theorem mapV_ne {hs : List Hunk} {line : Int} (h : (mapF hs line).code ≠ 0) : mapV hs line = (0, false) := by
  rw [mapV, if_neg (fun h0 => h (by rw [h0]))]
theorem mapF_range {hs : List Hunk} {line : Int} (h : patchF hs = ⟨0, 0⟩) : mapF hs line = rangeF line := by
  rw [mapF, if_neg (by simp [h])]; rfl
theorem mapF_patch {hs : List Hunk} {line : Int} (h : (patchF hs).code ≠ 0) : mapF hs line = patchF hs := by
  rw [mapF, if_pos (fun h0 => h (by rw [h0]))]
theorem backF_patch {hs : List Hunk} {line : Int} (h : (patchF hs).code ≠ 0) : backF hs line = patchF hs := by
  have h1 : patchF hs ≠ ⟨0, 0⟩ := fun h0 => h (by rw [h0])
  have h2 : invF hs = patchF hs := by rw [invF, if_pos h1]
  rw [backF, h2, if_pos h1]
theorem backF_no {hs : List Hunk} {line : Int} (h : patchF hs = ⟨0, 0⟩) (h1 : invOk hs = false) : backF hs line = ⟨10, -1⟩ := by
  have h2 : invF hs = ⟨10, -1⟩ := by rw [invF, if_neg (by simp [h]), if_neg (by simp [h1])]
  rw [backF, h2, if_pos (by decide)]
theorem backF_yes {hs : List Hunk} {line : Int} (h : patchF hs = ⟨0, 0⟩) (h1 : invOk hs = true) : backF hs line = rangeF line := by
  have h2 : invF hs = ⟨0, 0⟩ := by rw [invF, if_neg (by simp [h]), if_pos h1]
  rw [backF, h2, if_neg (by decide), mapF_range (patchF_ok.2 ((inv_valid (patchF_ok.1 h)).2 h1))]
theorem invF_code {hs : List Hunk} (h : (invF hs).code = 0) : invF hs = ⟨0, 0⟩ := by
  unfold invF at h ⊢
  by_cases h1 : patchF hs ≠ ⟨0, 0⟩
  · rw [if_pos h1] at h; exact absurd (patchF_code h) h1
  · rw [if_neg h1] at h ⊢
    by_cases h2 : invOk hs = true
    · rw [if_pos h2]
    · rw [if_neg h2] at h; cases h
theorem backF_zero {hs : List Hunk} {line : Int} (h : (backF hs line).code = 0) : PV hs ∧ PV (inv hs) ∧ isLine line = true ∧ backV hs line = place (inv hs) line 0 := by
  unfold backF backV at *
  by_cases h1 : invF hs ≠ ⟨0, 0⟩
  · rw [if_pos h1] at h; exact absurd (invF_code h) h1
  · rw [if_neg h1] at h ⊢
    obtain ⟨v, vi⟩ := invF_ok (Decidable.not_not.1 h1)
    obtain ⟨_, h2, _, h3⟩ := mapF_zero h
    exact ⟨v, vi, h2, h3⟩
theorem backV_ne {hs : List Hunk} {line : Int} (h : (backF hs line).code ≠ 0) : backV hs line = (0, false) := by
  unfold backF backV at *
  by_cases h1 : invF hs ≠ ⟨0, 0⟩
  · rw [if_pos h1]
  · rw [if_neg h1] at h ⊢; exact mapV_ne h
theorem law9_plain {hs : List Hunk} {line : Int} (h1 : (mapF hs line).code = 0) (h2 : (backF hs (mapV hs line).1).code = 0) (h3 : (mapV hs line).2 = true) : backV hs (mapV hs line).1 = (line, true) := by
  obtain ⟨v, hl, _, hm⟩ := mapF_zero h1
  obtain ⟨_, _, _, hb⟩ := backF_zero h2
  rw [hb, hm]
  rw [hm] at h3
  exact back_forth v (isLine_t hl).1 h3
end Go.Cf
