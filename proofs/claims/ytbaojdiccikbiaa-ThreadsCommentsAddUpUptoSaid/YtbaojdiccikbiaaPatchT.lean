/- The table of places: plain facts. Program independent. -/
import Derived.Test.YtbaojdiccikbiaaStr
namespace Go.Cf
open Go.RowKit
def traceP (P : List Hunk) (o : Nat) : List Int := (List.range 130).map fun i => if i < o then (place P i 0).1 else 0
def traceK (P : List Hunk) (o : Nat) : List Bool := (List.range 130).map fun i => if i < o then (place P i 0).2 else false
theorem traceP_len (P : List Hunk) (o : Nat) : (traceP P o).length = 130 := by simp [traceP]
theorem traceK_len (P : List Hunk) (o : Nat) : (traceK P o).length = 130 := by simp [traceK]
theorem tab_zero {α : Type} (f : Nat → α) (z : α) : ((List.range 130).map fun i => if i < 0 then f i else z) = List.replicate 130 z := by
  apply List.ext_getElem?
  intro j
  rw [List.getElem?_map, List.getElem?_replicate]
  by_cases h : j < 130
  · rw [List.getElem?_range h, if_pos h]; rfl
  · rw [if_neg h, List.getElem?_eq_none (by simp; omega)]; rfl
theorem traceP_zero (P : List Hunk) : traceP P 0 = List.replicate 130 0 := tab_zero _ _
theorem traceK_zero (P : List Hunk) : traceK P 0 = List.replicate 130 false := tab_zero _ _
theorem tab_set {α : Type} (f : Nat → α) (z : α) (o : Nat) : ((List.range 130).map fun i => if i < o then f i else z).set o (f o) = (List.range 130).map fun i => if i < o + 1 then f i else z := by
  apply List.ext_getElem?
  intro j
  rw [List.getElem?_set]
  by_cases h : o = j
  · subst h
    rw [if_pos rfl]
    by_cases h2 : o < 130
    · rw [if_pos (by simpa using h2), List.getElem?_map, List.getElem?_range h2]; simp
    · rw [if_neg (by simpa using h2), List.getElem?_eq_none (by simp; omega)]
  · rw [if_neg h, List.getElem?_map, List.getElem?_map]
    by_cases h2 : j < 130
    · rw [List.getElem?_range h2]
      simp only [Option.map_some]
      congr 1
      by_cases h3 : j < o
      · rw [if_pos h3, if_pos (by omega)]
      · rw [if_neg h3, if_neg (by omega)]
    · rw [List.getElem?_eq_none (by simp; omega)]; rfl
theorem tab_same {α : Type} (f : Nat → α) (z : α) (o : Nat) (hz : f o = z) : ((List.range 130).map fun i => if i < o then f i else z) = (List.range 130).map fun i => if i < o + 1 then f i else z := by
  apply List.map_congr_left
  intro i _
  by_cases h : i = o
  · subst h; rw [if_neg (by omega), if_pos (by omega), hz]
  · by_cases h3 : i < o
    · rw [if_pos h3, if_pos (by omega)]
    · rw [if_neg h3, if_neg (by omega)]
theorem traceP_set {P : List Hunk} {o : Nat} {x : Int} (h : (place P (o : Int) 0).1 = x) : (traceP P o).set o x = traceP P (o + 1) := by
  rw [← h]; exact tab_set (fun i => (place P i 0).1) 0 o
theorem traceK_set {P : List Hunk} {o : Nat} {x : Bool} (h : (place P (o : Int) 0).2 = x) : (traceK P o).set o x = traceK P (o + 1) := by
  rw [← h]; exact tab_set (fun i => (place P i 0).2) false o
theorem traceK_same {P : List Hunk} {o : Nat} (h : (place P (o : Int) 0).2 = false) : traceK P o = traceK P (o + 1) := tab_same (fun i => (place P i 0).2) false o h
theorem traceP_at {P : List Hunk} {k : Nat} (h : k < 130) : (traceP P 130)[k]? = some (place P (k : Int) 0).1 := by
  rw [traceP, List.getElem?_map, List.getElem?_range h]; simp [h]
theorem traceK_at {P : List Hunk} {k : Nat} (h : k < 130) : (traceK P 130)[k]? = some (place P (k : Int) 0).2 := by
  rw [traceK, List.getElem?_map, List.getElem?_range h]; simp [h]
theorem traceP_cell {P : List Hunk} {k : Nat} (h : k < 130) : ((traceP P 130).flatMap intCells).toArray[0 + k * 1]? = some (.int .i64 (place P (k : Int) 0).1) := by
  rw [List.getElem?_toArray]
  have := flat_at (f := intCells) (size := 1) (fun _ => rfl) (traceP P 130) k _ (traceP_at h) 0 _ rfl
  simpa using this
theorem traceK_cell {P : List Hunk} {k : Nat} (h : k < 130) : ((traceK P 130).flatMap boolCells).toArray[0 + k * 1]? = some (.bool (place P (k : Int) 0).2) := by
  rw [List.getElem?_toArray]
  have := flat_at (f := boolCells) (size := 1) (fun _ => rfl) (traceK P 130) k _ (traceK_at h) 0 _ rfl
  simpa using this
/-- the hunks lie one behind the other, from e on -/
def chain : Int → List Hunk → Prop
  | _, [] => True
  | e, h :: t => e ≤ h.at_ ∧ chain h.end_ t
theorem chain_drop {hs : List Hunk} (v : PV hs) : ∀ (n k : Nat) (e : Int), hs.length = k + n → (∀ h : k < hs.length, e ≤ hs[k].at_) → chain e (hs.drop k)
  | 0, k, e, hn, _ => by rw [List.drop_eq_nil_of_le (by omega)]; trivial
  | n + 1, k, e, hn, he => by
    have hk : k < hs.length := by omega
    rw [List.drop_eq_getElem_cons hk]
    refine ⟨he hk, chain_drop v n (k + 1) hs[k].end_ (by omega) fun h => ?_⟩
    have := (v.at_ (k + 1) h).past
    rw [PV.prev hk] at this
    omega
theorem PV.chain {hs : List Hunk} (v : PV hs) : Go.Cf.chain 0 hs := by
  have := chain_drop v hs.length 0 0 (by omega) (fun h => (v.at_ 0 h).lo)
  rwa [List.drop_zero] at this
theorem place_nn : ∀ (hs : List Hunk) (line g e : Int), chain e hs → 0 ≤ e + g → e ≤ line → 0 ≤ (place hs line g).1
  | [], line, g, e, _, h1, h2 => by simp only [place]; omega
  | h :: t, line, g, e, hc, h1, h2 => by
    have hc1 := hc.1
    rw [place]
    split
    · simp only; omega
    · split
      · simp only; omega
      · rename_i h3 h4
        refine place_nn t line (g + h.growth) h.end_ hc.2 ?_ (by omega)
        unfold Hunk.end_ Hunk.growth
        omega
def baseF (n : Nat) (line : Int) : Fault := if 12 < n then ⟨2, -1⟩ else rangeF line
theorem baseF_zero {n : Nat} {line : Int} (h : (baseF n line).code = 0) : n ≤ 12 ∧ isLine line = true ∧ baseF n line = ⟨0, 0⟩ := by
  unfold baseF rangeF at h ⊢
  by_cases h1 : 12 < n
  · rw [if_pos h1] at h; cases h
  · rw [if_neg h1] at h ⊢
    by_cases h2 : isLine line = false
    · rw [if_pos h2] at h; cases h
    · rw [if_neg h2]; exact ⟨by omega, by simpa using h2, rfl⟩
theorem baseF_ne {P : List (List Hunk)} {line : Int} (h : (baseF P.length line).code ≠ 0) : throughF P line = baseF P.length line := by
  unfold baseF rangeF throughF at *
  by_cases h1 : 12 < P.length
  · rw [if_pos h1, if_pos h1]
  · rw [if_neg h1] at h ⊢
    rw [if_neg h1]
    by_cases h2 : isLine line = false
    · rw [if_pos h2, if_pos h2]
    · rw [if_neg h2] at h; exact absurd rfl h
theorem baseF_ne2 {α : Type} {f : α → List Hunk} {ps : List α} {line : Int} (h : (baseF ps.length line).code ≠ 0) : throughF (ps.map f) line = baseF ps.length line := by
  have := baseF_ne (P := ps.map f) (line := line) (by rw [List.length_map]; exact h)
  rwa [List.length_map] at this
theorem throughF_scan {P : List (List Hunk)} {line : Int} (h1 : P.length ≤ 12) (h2 : isLine line = true) : throughF P line = scan (fun _ p => (patchF p).code) P := by
  rw [throughF, if_neg (by omega), if_neg (by simp [h2])]
theorem throughF_all {P : List (List Hunk)} {line : Int} (h : (throughF P line).code = 0) : P.length ≤ 12 ∧ isLine line = true ∧ throughF P line = ⟨0, 0⟩ ∧ ∀ j (hj : j < P.length), PV P[j] := by
  have hb : (baseF P.length line).code = 0 := Classical.byContradiction fun hn => by rw [baseF_ne hn] at h; exact hn h
  obtain ⟨h1, h2, _⟩ := baseF_zero hb
  rw [throughF_scan h1 h2] at h ⊢
  exact ⟨h1, h2, scan_code_eq h, fun j hj => patchF_ok.1 (patchF_code (scan_code.1 h j hj))⟩
def kbF (hs : List Hunk) (n : Int) : Fault := if patchF hs ≠ ⟨0, 0⟩ then patchF hs else if n < 0 ∨ 120 < n then ⟨3, -2⟩ else ⟨0, 0⟩
theorem kbF_zero {hs : List Hunk} {n : Int} (h : (kbF hs n).code = 0) : kbF hs n = ⟨0, 0⟩ ∧ PV hs ∧ 0 ≤ n ∧ n ≤ 120 := by
  unfold kbF at h ⊢
  by_cases h1 : patchF hs ≠ ⟨0, 0⟩
  · rw [if_pos h1] at h; exact absurd (patchF_code h) h1
  · rw [if_neg h1] at h ⊢
    by_cases h2 : n < 0 ∨ 120 < n
    · rw [if_pos h2] at h; cases h
    · rw [if_neg h2]; exact ⟨rfl, patchF_ok.1 (Decidable.not_not.1 h1), by omega, by omega⟩
theorem kbF_ne {hs : List Hunk} {n : Int} (h : (kbF hs n).code ≠ 0) : keptF hs n = kbF hs n := by
  unfold kbF keptF at *
  by_cases h1 : patchF hs ≠ ⟨0, 0⟩
  · rw [if_pos h1, if_pos h1]
  · rw [if_neg h1] at h ⊢
    rw [if_neg h1]
    by_cases h2 : n < 0 ∨ 120 < n
    · rw [if_pos h2, if_pos h2]
    · rw [if_neg h2] at h; exact absurd rfl h
theorem keptF_scan {hs : List Hunk} {n : Int} (v : PV hs) (h1 : 0 ≤ n) (h2 : n ≤ 120) : keptF hs n = scan (fun _ h => if n < h.end_ then 19 else 0) hs := by
  rw [keptF, if_neg (by simp [patchF_ok.2 v]), if_neg (by omega)]
theorem keptF_all {hs : List Hunk} {n : Int} (h : (keptF hs n).code = 0) : PV hs ∧ 0 ≤ n ∧ n ≤ 120 ∧ keptF hs n = ⟨0, 0⟩ ∧ keptR hs n = keptL hs n := by
  have hb : (kbF hs n).code = 0 := Classical.byContradiction fun hn => by rw [kbF_ne hn] at h; exact hn h
  obtain ⟨_, v, h1, h2⟩ := kbF_zero hb
  have hz : keptF hs n = ⟨0, 0⟩ := by rw [keptF_scan v h1 h2] at h ⊢; exact scan_code_eq h
  exact ⟨v, h1, h2, hz, by rw [keptR, if_pos hz]⟩
theorem keptR_ne {hs : List Hunk} {n : Int} (h : (keptF hs n).code ≠ 0) : keptR hs n = [] := by
  rw [keptR, if_neg (fun h0 => h (by rw [h0]))]
theorem throughV_ne {P : List (List Hunk)} {line : Int} (h : (throughF P line).code ≠ 0) : throughV P line = (0, 0) := by
  rw [throughV, if_neg (fun h0 => h (by rw [h0]))]
theorem keptL_at {hs : List Hunk} {q k : Nat} (h : k < (keptL hs (q : Int)).length) : (keptL hs (q : Int))[k] = keptAt hs k := by
  simp [keptL]
end Go.Cf
