/- Patches applied to texts: plain facts. Program independent. -/
import Derived.Test.YtbaojdiccikbiaaPatchI
import Derived.Laws.Strings
namespace Go.Cf
open Go.RowKit
theorem ba_eq {a b : ByteArray} : (a.toList == b.toList) = true ↔ a = b := by
  rw [beq_iff_eq, ByteArray.toList_eq, ByteArray.toList_eq, Array.toList_inj]
  exact ⟨fun h => by cases a; cases b; simp_all, fun h => by rw [h]⟩
theorem ba_ne_t {a b : ByteArray} (h : (!(a.toList == b.toList)) = true) : a ≠ b := fun e => by
  rw [(ba_eq).2 e] at h; cases h
theorem ba_ne_f {a b : ByteArray} (h : (!(a.toList == b.toList)) = false) : a = b := by
  rw [Bool.not_eq_false'] at h; exact ba_eq.1 h
theorem ba_self (a : ByteArray) : (a.toList == a.toList) = true := by simp
/-- hunks applied to the lines of a text from a line on -/
def rawFrom : Nat → List Hunk → List ByteArray → List ByteArray
  | low, [], t => t.drop low
  | low, h :: r, t => (t.drop low).take (h.at_.toNat - low) ++ (h.new ++ rawFrom (h.at_.toNat + h.old.length) r t)
def occ (text part : List ByteArray) (a : Int) : Bool := decide (0 ≤ a) && decide (a ≤ text.length) && decide ((part.length : Int) ≤ text.length - a) && decide ((text.drop a.toNat).take part.length = part)
def applyF (hs : List Hunk) (text : List ByteArray) : Fault :=
  if patchF hs ≠ ⟨0, 0⟩ then patchF hs else if secondF (linesF text) (-2) ≠ ⟨0, 0⟩ then secondF (linesF text) (-2) else
    if scan (fun _ h => if occ text h.old h.at_ = true then 0 else 19) hs ≠ ⟨0, 0⟩ then scan (fun _ h => if occ text h.old h.at_ = true then 0 else 19) hs else
      if 120 < (rawFrom 0 hs text).length then ⟨10, -1⟩ else ⟨0, 0⟩
def applyR (hs : List Hunk) (text : List ByteArray) : List ByteArray := if applyF hs text = ⟨0, 0⟩ then rawFrom 0 hs text else []
theorem rawFrom_drop {hs : List Hunk} {k : Nat} (h : k < hs.length) (low : Nat) (t : List ByteArray) : rawFrom low (hs.drop k) t =
    (t.drop low).take (hs[k].at_.toNat - low) ++ (hs[k].new ++ rawFrom (hs[k].at_.toNat + hs[k].old.length) (hs.drop (k + 1)) t) := by
  rw [List.drop_eq_getElem_cons h, rawFrom]
theorem occ_end {text part : List ByteArray} {a : Int} (h : occ text part a = true) : 0 ≤ a ∧ a + part.length ≤ text.length := by
  simp only [occ, Bool.and_eq_true, decide_eq_true_eq] at h; omega
theorem second_lines {l : List ByteArray} {i : Int} (h : secondF (linesF l) i = ⟨0, 0⟩) : linesF l = ⟨0, 0⟩ := by
  apply Classical.byContradiction
  intro h1
  rw [secondF, if_pos h1] at h
  exact h1 (linesF_code (congrArg Fault.code h))
/-- what a patch that applies is like -/
structure AppOk (hs : List Hunk) (text : List ByteArray) : Prop where
  pv : PV hs
  lines : linesF text = ⟨0, 0⟩
  occ_ : ∀ k (h : k < hs.length), occ text hs[k].old hs[k].at_ = true
  len : (rawFrom 0 hs text).length ≤ 120
theorem applyF_code {hs : List Hunk} {text : List ByteArray} (h : (applyF hs text).code = 0) : applyF hs text = ⟨0, 0⟩ ∧ AppOk hs text ∧ applyR hs text = rawFrom 0 hs text := by
  have key : applyF hs text = ⟨0, 0⟩ ∧ AppOk hs text := by
    unfold applyF at h ⊢
    by_cases h1 : patchF hs ≠ ⟨0, 0⟩
    · rw [if_pos h1] at h; exact absurd (patchF_code h) h1
    · rw [if_neg h1] at h ⊢
      by_cases h2 : secondF (linesF text) (-2) ≠ ⟨0, 0⟩
      · rw [if_pos h2] at h
        exfalso; apply h2
        unfold secondF at h ⊢
        by_cases h3 : linesF text ≠ ⟨0, 0⟩
        · rw [if_pos h3] at h; exact absurd (linesF_code h) h3
        · rw [if_neg h3]
      · rw [if_neg h2] at h ⊢
        by_cases h3 : scan (fun _ h => if occ text h.old h.at_ = true then 0 else 19) hs ≠ ⟨0, 0⟩
        · rw [if_pos h3] at h; exact absurd (scan_code_eq h) h3
        · rw [if_neg h3] at h ⊢
          by_cases h4 : 120 < (rawFrom 0 hs text).length
          · rw [if_pos h4] at h; cases h
          · rw [if_neg h4]
            refine ⟨rfl, patchF_ok.1 (Decidable.not_not.1 h1), second_lines (Decidable.not_not.1 h2), fun k hk => ?_, by omega⟩
            have := scan_zero.1 (Decidable.not_not.1 h3) k hk
            by_cases h5 : occ text hs[k].old hs[k].at_ = true
            · exact h5
            · rw [if_neg h5] at this; cases this
  exact ⟨key.1, key.2, by rw [applyR, if_pos key.1]⟩
theorem AppOk.ends {hs : List Hunk} {text : List ByteArray} (a : AppOk hs text) : ∀ h ∈ hs, h.end_ ≤ text.length := fun h hh => by
  obtain ⟨k, hk, rfl⟩ := List.getElem_of_mem hh
  exact (occ_end (a.occ_ k hk)).2
/-- a kept line is where its place says -/
theorem raw_at (text : List ByteArray) : ∀ (hs : List Hunk) (i low : Nat) (g : Int), chain low hs → (∀ h ∈ hs, h.end_ ≤ text.length) → (∀ h ∈ hs, 0 ≤ h.at_) → low ≤ i → i < text.length → (place hs i g).2 = true →
    ∃ j : Nat, (place hs i g).1 = low + g + j ∧ (rawFrom low hs text)[j]? = text[i]?
  | [], i, low, g, _, _, _, hl, hi, _ => ⟨i - low, by simp only [place]; omega, by rw [rawFrom, List.getElem?_drop, show low + (i - low) = i by omega]⟩
  | h :: r, i, low, g, hc, he, h0, hl, hi, hk => by
    have hc1 := hc.1
    have ha := h0 h (by simp)
    have hend : h.end_ ≤ text.length := he h (by simp)
    have e1 : h.end_ = h.at_ + h.old.length := rfl
    have e2 : h.growth = h.new.length - h.old.length := rfl
    have hlen : ((text.drop low).take (h.at_.toNat - low)).length = h.at_.toNat - low := by simp; omega
    rw [place] at hk ⊢
    by_cases h3 : (i : Int) < h.at_
    · rw [if_pos h3]
      refine ⟨i - low, by simp only; omega, ?_⟩
      rw [rawFrom, List.getElem?_append_left (by omega), List.getElem?_take, if_pos (by omega), List.getElem?_drop, show low + (i - low) = i by omega]
    · rw [if_neg h3] at hk ⊢
      by_cases h4 : (i : Int) < h.end_
      · rw [if_pos h4] at hk; cases hk
      · rw [if_neg h4] at hk ⊢
        have ce : (((h.at_.toNat + h.old.length : Nat)) : Int) = h.end_ := by omega
        obtain ⟨j, hj, hr⟩ := raw_at text r i (h.at_.toNat + h.old.length) (g + h.growth) (by rw [ce]; exact hc.2) (fun x hx => he x (by simp [hx])) (fun x hx => h0 x (by simp [hx])) (by omega) hi hk
        refine ⟨(h.at_.toNat - low) + h.new.length + j, by rw [hj]; omega, ?_⟩
        rw [rawFrom, List.getElem?_append_right (by omega), hlen, List.getElem?_append_right (by omega), ← hr]
        congr 1; omega
theorem place_mono : ∀ (hs : List Hunk) (i i' g e : Int), chain e hs → e ≤ i → i < i' → (place hs i g).2 = true → (place hs i' g).2 = true → (place hs i g).1 < (place hs i' g).1
  | [], i, i', g, e, _, _, h, _, _ => by simp only [place]; omega
  | h :: r, i, i', g, e, hc, he, hlt, h1, h2 => by
    have hc1 := hc.1
    have e1 : h.end_ = h.at_ + h.old.length := rfl
    have e2 : h.growth = h.new.length - h.old.length := rfl
    rw [place] at h1 h2 ⊢
    rw [place]
    by_cases h3 : i' < h.at_
    · rw [if_pos h3, if_pos (by omega)]; simp only; omega
    · rw [if_neg h3] at h2 ⊢
      by_cases h4 : i' < h.end_
      · rw [if_pos h4] at h2; cases h2
      · rw [if_neg h4] at h2 ⊢
        by_cases h5 : i < h.at_
        · rw [if_pos h5]
          have := place_ge r i' (g + h.growth) h.end_ hc.2 (by omega)
          simp only; omega
        · rw [if_neg h5] at h1 ⊢
          by_cases h6 : i < h.end_
          · rw [if_pos h6] at h1; cases h1
          · rw [if_neg h6] at h1 ⊢
            exact place_mono r i i' (g + h.growth) h.end_ hc.2 (by omega) hlt h1 h2
theorem rawFrom_len {hs : List Hunk} (t : List ByteArray) (hb : ∀ h ∈ hs, HB h) : ∀ low, (rawFrom low hs t).length ≤ t.length + 240 * hs.length + t.length * hs.length := by
  induction hs with
  | nil => intro low; simp [rawFrom]
  | cons h r ih =>
    intro low
    have h1 := ih (fun x hx => hb x (by simp [hx])) (h.at_.toNat + h.old.length)
    have h2 := (hb h (by simp)).new
    simp only [rawFrom, List.length_append, List.length_take, List.length_drop, List.length_cons, Nat.mul_add] at h1 ⊢
    omega
theorem keptF_app {hs : List Hunk} {text : List ByteArray} (a : AppOk hs text) : keptF hs (text.length : Int) = ⟨0, 0⟩ ∧ keptR hs (text.length : Int) = keptL hs (text.length : Int) := by
  have hl := linesF_len a.lines
  have h1 : keptF hs (text.length : Int) = ⟨0, 0⟩ := by
    rw [keptF_scan a.pv (by omega) (by omega)]
    refine scan_ok fun j hj => ?_
    rw [if_neg]
    have := a.ends _ (List.getElem_mem hj); omega
  exact ⟨h1, by rw [keptR, if_pos h1]⟩
theorem keptAt_nn {hs : List Hunk} (v : PV hs) {i : Nat} (h : 0 ≤ keptAt hs i) : (place hs i 0).2 = true ∧ keptAt hs i = (place hs i 0).1 := by
  unfold keptAt at h ⊢
  by_cases h1 : (place hs i 0).2 = true
  · rw [if_pos h1]; exact ⟨h1, rfl⟩
  · rw [if_neg h1] at h; omega
theorem kept_text {hs : List Hunk} {text : List ByteArray} (a : AppOk hs text) {i : Nat} (hi : i < text.length) (hk : (place hs i 0).2 = true) : ∃ j : Nat, (place hs i 0).1 = j ∧ (rawFrom 0 hs text)[j]? = some text[i] := by
  obtain ⟨j, h1, h2⟩ := raw_at text hs i 0 0 a.pv.chain a.ends (fun h hh => (a.pv.each h hh).lo) (Nat.zero_le _) hi hk
  exact ⟨j, by rw [h1]; omega, by rw [h2, List.getElem?_eq_getElem hi]⟩
end Go.Cf
