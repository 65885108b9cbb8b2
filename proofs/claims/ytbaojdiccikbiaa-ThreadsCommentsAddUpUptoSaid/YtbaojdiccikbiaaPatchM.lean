/- Texts and patches: the plain model. Program independent. -/
import Derived.Test.YtbaojdiccikbiaaPlain
import Derived.Laws.Externs
namespace Go.Cf
open Go.RowKit

/-- the first element with a code that is not 0 -/
def scanFrom {α : Type} (f : Nat → α → Int) : Nat → List α → Fault
  | _, [] => ⟨0, 0⟩
  | k, x :: l => if f k x = 0 then scanFrom f (k + 1) l else ⟨f k x, k⟩
def scan {α : Type} (f : Nat → α → Int) (l : List α) : Fault := scanFrom f 0 l
theorem scanFrom_ok {α : Type} (f : Nat → α → Int) : ∀ (l : List α) (m : Nat), (∀ j (h : j < l.length), f (m + j) l[j] = 0) → scanFrom f m l = ⟨0, 0⟩
  | [], _, _ => rfl
  | x :: l, m, h => by
    rw [scanFrom, if_pos (show f m x = 0 from h 0 (by simp))]
    exact scanFrom_ok f l (m + 1) fun j hj => by
      have := h (j + 1) (by simp; omega)
      rwa [show m + (j + 1) = m + 1 + j by omega, List.getElem_cons_succ] at this
theorem scanFrom_at {α : Type} (f : Nat → α → Int) : ∀ (l : List α) (m k : Nat) (hk : k < l.length), (∀ j (h : j < l.length), j < k → f (m + j) l[j] = 0) → f (m + k) l[k] ≠ 0 → scanFrom f m l = ⟨f (m + k) l[k], (m + k : Nat)⟩
  | [], _, _, hk, _, _ => absurd hk (by simp)
  | x :: l, m, 0, _, _, hne => by rw [scanFrom, if_neg (show f m x ≠ 0 from hne)]; rfl
  | x :: l, m, k + 1, hk, h, hne => by
    rw [scanFrom, if_pos (show f m x = 0 from h 0 (by simp) (by omega))]
    have := scanFrom_at f l (m + 1) k (by simpa using hk) (fun j hj hjk => by
      have := h (j + 1) (by simp; omega) (by omega)
      rwa [show m + (j + 1) = m + 1 + j by omega, List.getElem_cons_succ] at this) (by
      rwa [show m + (k + 1) = m + 1 + k by omega, List.getElem_cons_succ] at hne)
    rw [this, show m + (k + 1) = m + 1 + k by omega, List.getElem_cons_succ]
theorem scan_ok {α : Type} {f : Nat → α → Int} {l : List α} (h : ∀ j (h : j < l.length), f j l[j] = 0) : scan f l = ⟨0, 0⟩ := scanFrom_ok f l 0 fun j hj => by rw [Nat.zero_add]; exact h j hj
theorem scan_at {α : Type} {f : Nat → α → Int} {l : List α} {k : Nat} (hk : k < l.length) (h : ∀ j (h : j < l.length), j < k → f j l[j] = 0) (hne : f k l[k] ≠ 0) : scan f l = ⟨f k l[k], k⟩ := by
  have := scanFrom_at f l 0 k hk (fun j hj hjk => by rw [Nat.zero_add]; exact h j hj hjk) (by rwa [Nat.zero_add])
  rwa [Nat.zero_add] at this
theorem scan_code {α : Type} {f : Nat → α → Int} {l : List α} : (scan f l).code = 0 ↔ ∀ j (h : j < l.length), f j l[j] = 0 := by
  constructor
  · intro h0
    apply Classical.byContradiction
    intro hn
    have hex : ∃ k, ∃ h : k < l.length, f k l[k] ≠ 0 := Classical.byContradiction fun hc => hn fun j hj => Classical.byContradiction fun hx => hc ⟨j, hj, hx⟩
    obtain ⟨k, ⟨hk, hne⟩, hmin⟩ : ∃ k, (∃ h : k < l.length, f k l[k] ≠ 0) ∧ ∀ j, j < k → ¬ ∃ h : j < l.length, f j l[j] ≠ 0 := by
      clear h0 hn
      obtain ⟨k, hk⟩ := hex
      induction k using Nat.strongRecOn with
      | _ k ih =>
        by_cases hc : ∃ j, j < k ∧ ∃ h : j < l.length, f j l[j] ≠ 0
        · obtain ⟨j, hj, hp⟩ := hc; exact ih j hj hp
        · exact ⟨k, hk, fun j hj hp => hc ⟨j, hj, hp⟩⟩
    rw [scan_at hk (fun j hj hjk => Classical.byContradiction fun hx => hmin j hjk ⟨hj, hx⟩) hne] at h0
    exact hne h0
  · intro h; rw [scan_ok h]
theorem scan_zero {α : Type} {f : Nat → α → Int} {l : List α} : scan f l = ⟨0, 0⟩ ↔ ∀ j (h : j < l.length), f j l[j] = 0 := ⟨fun h => scan_code.1 (by rw [h]), scan_ok⟩
theorem scan_code_eq {α : Type} {f : Nat → α → Int} {l : List α} (h : (scan f l).code = 0) : scan f l = ⟨0, 0⟩ := scan_ok (scan_code.1 h)

/-- the error code of a line -/
def lineCode (s : ByteArray) : Int := if 80 < s.size then 2 else if 0 ≤ firstIdx s 10 then 5 else 0
def linesF (l : List ByteArray) : Fault := if 120 < l.length then ⟨2, -1⟩ else scan (fun _ s => lineCode s) l
theorem linesF_code {l : List ByteArray} (h : (linesF l).code = 0) : linesF l = ⟨0, 0⟩ := by
  unfold linesF at h ⊢
  split
  · rename_i h1; rw [if_pos h1] at h; cases h
  · rename_i h1; rw [if_neg h1] at h; exact scan_code_eq h
theorem linesF_len {l : List ByteArray} (h : linesF l = ⟨0, 0⟩) : l.length ≤ 120 := by
  unfold linesF at h
  split at h
  · cases h
  · omega

structure Hunk where
  at_ : Int
  old : List ByteArray
  new : List ByteArray
def Hunk.end_ (h : Hunk) : Int := h.at_ + h.old.length
def Hunk.growth (h : Hunk) : Int := h.new.length - h.old.length
def hunkC (h : Hunk) (e : Int) : Int :=
  if h.at_ < 0 ∨ 120 < h.at_ then 3 else if linesF h.old ≠ ⟨0, 0⟩ then (linesF h.old).code else if linesF h.new ≠ ⟨0, 0⟩ then (linesF h.new).code else
    if h.old.length + h.new.length = 0 ∨ h.at_ ≤ e then 5 else if 120 < h.end_ then 3 else 0
def prevEnd (hs : List Hunk) : Nat → Int
  | 0 => -1
  | k + 1 => match hs[k]? with
    | some h => h.end_
    | none => -1
def patchF (hs : List Hunk) : Fault := if 130 < hs.length then ⟨2, -1⟩ else scan (fun k h => hunkC h (prevEnd hs k)) hs
structure VHunk (h : Hunk) (e : Int) : Prop where
  lo : 0 ≤ h.at_
  hi : h.at_ ≤ 120
  old : linesF h.old = ⟨0, 0⟩
  new : linesF h.new = ⟨0, 0⟩
  some_ : h.old.length + h.new.length ≠ 0
  past : e < h.at_
  end_ : h.end_ ≤ 120
theorem VHunk.oldLen {h : Hunk} {e : Int} (v : VHunk h e) : h.old.length ≤ 120 := linesF_len v.old
theorem VHunk.newLen {h : Hunk} {e : Int} (v : VHunk h e) : h.new.length ≤ 120 := linesF_len v.new
theorem hunkC_zero {h : Hunk} {e : Int} : hunkC h e = 0 ↔ VHunk h e := by
  unfold hunkC
  constructor
  · intro h0
    split at h0
    · cases h0
    · split at h0
      · rename_i h1 h2; exact absurd (linesF_code h0) h2
      · split at h0
        · rename_i h1 h2 h3; exact absurd (linesF_code h0) h3
        · split at h0
          · cases h0
          · split at h0
            · cases h0
            · rename_i h1 h2 h3 h4 h5
              exact ⟨by omega, by omega, Decidable.not_not.1 h2, Decidable.not_not.1 h3, by omega, by omega, by omega⟩
  · intro v
    rw [if_neg (by have := v.lo; have := v.hi; omega), if_neg (by simp [v.old]), if_neg (by simp [v.new]), if_neg (by have := v.some_; have := v.past; omega), if_neg (by have := v.end_; omega)]
/-- a valid patch -/
structure PV (hs : List Hunk) : Prop where
  len : hs.length ≤ 130
  at_ : ∀ k (h : k < hs.length), VHunk hs[k] (prevEnd hs k)
theorem patchF_ok {hs : List Hunk} : patchF hs = ⟨0, 0⟩ ↔ PV hs := by
  unfold patchF
  constructor
  · intro h
    split at h
    · cases h
    · rename_i h1
      exact ⟨by omega, fun k hk => hunkC_zero.1 (scan_zero.1 h k hk)⟩
  · intro v
    rw [if_neg (by have := v.len; omega)]
    exact scan_ok fun k hk => hunkC_zero.2 (v.at_ k hk)
theorem patchF_code {hs : List Hunk} (h : (patchF hs).code = 0) : patchF hs = ⟨0, 0⟩ := by
  unfold patchF at h ⊢
  split
  · rename_i h1; rw [if_pos h1] at h; cases h
  · rename_i h1; rw [if_neg h1] at h; exact scan_code_eq h
theorem PV.prev {hs : List Hunk} {k : Nat} (h : k < hs.length) : prevEnd hs (k + 1) = hs[k].end_ := by
  rw [prevEnd, List.getElem?_eq_getElem h]
/-- the bounds of hunks that walks need -/
structure HB (h : Hunk) : Prop where
  lo : 0 ≤ h.at_
  hi : h.at_ ≤ 120
  old : h.old.length ≤ 120
  new : h.new.length ≤ 120
theorem PV.hb {hs : List Hunk} (v : PV hs) : ∀ k (h : k < hs.length), HB hs[k] := fun k h => ⟨(v.at_ k h).lo, (v.at_ k h).hi, (v.at_ k h).oldLen, (v.at_ k h).newLen⟩

/-- the place of a line behind hunks -/
def place : List Hunk → Int → Int → Int × Bool
  | [], line, g => (line + g, true)
  | h :: t, line, g => if line < h.at_ then (line + g, true) else if line < h.end_ then (h.at_ + g, false) else place t line (g + h.growth)
theorem place_drop {hs : List Hunk} {k : Nat} (h : k < hs.length) (line g : Int) : place (hs.drop k) line g =
    if line < hs[k].at_ then (line + g, true) else if line < hs[k].end_ then (hs[k].at_ + g, false) else place (hs.drop (k + 1)) line (g + hs[k].growth) := by
  rw [List.drop_eq_getElem_cons h, place]
/-- through patches: the line and how many keep it -/
def through : List (List Hunk) → Int → Int × Nat
  | [], line => (line, 0)
  | p :: ps, line => if (place p line 0).2 = true then ((through ps (place p line 0).1).1, (through ps (place p line 0).1).2 + 1) else (line, 0)
def isLine (n : Int) : Bool := decide (0 ≤ n) && decide (n < 120)
def secondF (f : Fault) (i : Int) : Fault := if f ≠ ⟨0, 0⟩ then ⟨f.code, i⟩ else ⟨0, 0⟩
def throughF (ps : List (List Hunk)) (line : Int) : Fault :=
  if 12 < ps.length then ⟨2, -1⟩ else if isLine line = false then ⟨3, -2⟩ else scan (fun _ p => (patchF p).code) ps
def keptF (hs : List Hunk) (n : Int) : Fault :=
  if patchF hs ≠ ⟨0, 0⟩ then patchF hs else if n < 0 ∨ 120 < n then ⟨3, -2⟩ else scan (fun _ h => if n < h.end_ then 19 else 0) hs
def keptAt (hs : List Hunk) (i : Nat) : Int := if (place hs i 0).2 = true then (place hs i 0).1 else -1
def keptL (hs : List Hunk) (n : Int) : List Int := (List.range n.toNat).map (keptAt hs)
def mapF (hs : List Hunk) (line : Int) : Fault := if patchF hs ≠ ⟨0, 0⟩ then patchF hs else if isLine line = false then ⟨3, -2⟩ else ⟨0, 0⟩
def mapV (hs : List Hunk) (line : Int) : Int × Bool := if mapF hs line = ⟨0, 0⟩ then place hs line 0 else (0, false)
def throughV (ps : List (List Hunk)) (line : Int) : Int × Nat := if throughF ps line = ⟨0, 0⟩ then through ps line else (0, 0)
theorem place_bd : ∀ (hs : List Hunk) (line g : Int), (∀ h ∈ hs, HB h) → (place hs line g).2 = true → line + g - 120 * hs.length ≤ (place hs line g).1 ∧ (place hs line g).1 ≤ line + g + 120 * hs.length
  | [], line, g, _, _ => by simp [place]
  | h :: t, line, g, hb, hk => by
    have h1 := hb h (by simp)
    rw [place] at hk ⊢
    split
    · simp only [List.length_cons]; omega
    · rename_i h2
      rw [if_neg h2] at hk
      split
      · rename_i h3; rw [if_pos h3] at hk; cases hk
      · rename_i h3
        rw [if_neg h3] at hk
        have := place_bd t line (g + h.growth) (fun x hx => hb x (by simp [hx])) hk
        have e1 := h1.old
        have e2 := h1.new
        simp only [List.length_cons, Hunk.growth] at this ⊢
        omega
theorem PV.each {hs : List Hunk} (v : PV hs) : ∀ h ∈ hs, HB h := fun h hh => by
  obtain ⟨k, hk, rfl⟩ := List.getElem_of_mem hh
  exact v.hb k hk
theorem through_drop {ps : List (List Hunk)} {k : Nat} (h : k < ps.length) (line : Int) : through (ps.drop k) line =
    if (place ps[k] line 0).2 = true then ((through (ps.drop (k + 1)) (place ps[k] line 0).1).1, (through (ps.drop (k + 1)) (place ps[k] line 0).1).2 + 1) else (line, 0) := by
  rw [List.drop_eq_getElem_cons h, through]
def rangeF (line : Int) : Fault := if isLine line = false then ⟨3, -2⟩ else ⟨0, 0⟩
def keptR (hs : List Hunk) (n : Int) : List Int := if keptF hs n = ⟨0, 0⟩ then keptL hs n else []
theorem second_ne {p : List Hunk} {i : Int} (h : secondF (patchF p) i ≠ ⟨0, 0⟩) : (patchF p).code ≠ 0 ∧ secondF (patchF p) i = ⟨(patchF p).code, i⟩ := by
  unfold secondF at h ⊢
  split
  · rename_i h1; exact ⟨fun h2 => h1 (patchF_code h2), rfl⟩
  · rename_i h1; rw [if_neg h1] at h; exact absurd rfl h
theorem second_eq {p : List Hunk} {i : Int} (h : secondF (patchF p) i = ⟨0, 0⟩) : patchF p = ⟨0, 0⟩ := by
  apply Classical.byContradiction
  intro h1
  rw [secondF, if_pos h1] at h
  exact h1 (patchF_code (congrArg Fault.code h))
theorem isLine_t {n : Int} (h : isLine n = true) : 0 ≤ n ∧ n < 120 := by simpa [isLine] using h
/-- the example of the laws -/
abbrev exP : List Hunk := [⟨1, [⟨#[98]⟩], [⟨#[120]⟩, ⟨#[121]⟩]⟩]
theorem ex_mapF : mapF exP 2 = ⟨0, 0⟩ := by decide +kernel
theorem ex_mapV : mapV exP 2 = (3, true) := by decide +kernel
theorem ex_keptF : keptF exP 3 = ⟨0, 0⟩ := by decide +kernel
theorem ex_keptR : keptR exP 3 = [0, -1, 3] := by decide +kernel
theorem through_le : ∀ (ps : List (List Hunk)) (line : Int), (through ps line).2 ≤ ps.length
  | [], _ => Nat.le_refl _
  | p :: ps, line => by
    rw [through]
    split
    · have := through_le ps (place p line 0).1; simp only [List.length_cons]; omega
    · exact Nat.zero_le _
theorem through_append : ∀ (a b : List (List Hunk)) (line : Int), through (a ++ b) line =
    if (through a line).2 = a.length then ((through b (through a line).1).1, a.length + (through b (through a line).1).2) else through a line
  | [], b, line => by simp [through]
  | p :: a, b, line => by
    have ih := through_append a b (place p line 0).1
    rw [List.cons_append, through, through]
    by_cases h : (place p line 0).2 = true
    · rw [if_pos h, if_pos h, ih]
      simp only [List.length_cons, Nat.add_right_cancel_iff]
      split
      · simp only [Prod.mk.injEq, true_and]; omega
      · rfl
    · rw [if_neg h, if_neg h, if_neg (by simp)]
theorem throughV_ok {ps : List (List Hunk)} {line : Int} (h : (throughF ps line).code = 0) : throughV ps line = through ps line := by
  have : throughF ps line = ⟨0, 0⟩ := by
    unfold throughF at h ⊢
    split
    · rename_i h1; rw [if_pos h1] at h; cases h
    · rename_i h1; rw [if_neg h1] at h
      split
      · rename_i h2; rw [if_pos h2] at h; cases h
      · rename_i h2; rw [if_neg h2] at h; exact scan_code_eq h
  rw [throughV, if_pos this]
theorem throughV_le (ps : List (List Hunk)) (line : Int) : (throughV ps line).2 ≤ ps.length := by
  unfold throughV
  split
  · exact through_le ps line
  · exact Nat.zero_le _
end Go.Cf
