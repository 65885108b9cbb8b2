/- The table of places: plain facts. Program independent. -/
import Derived.Test.YtbaojdiccikbiaaStr
namespace Go.Cf
open Go.RowKit
def traceP (P : List Hunk) (o : Nat) : List Int := (List.range 130).map fun i => if i < o then (place P i 0).1 else 0
def traceK (P : List Hunk) (o : Nat) : List Bool := (List.range 130).map fun i => if i < o then (place P i 0).2 else false
theorem traceP_len (P : List Hunk) (o : Nat) : (traceP P o).length = 130 := by simp [traceP]
theorem traceK_len (P : List Hunk) (o : Nat) : (traceK P o).length = 130 := by simp [traceK]
theorem tab_zero {α : Type} (f : Nat → α) (z : α) : ((List.range 130).map fun i => if i < 0 then f i else z) = List.replicate 130 z := by
  apply List.ext_getElem?
  intro j
  rw [List.getElem?_map, List.getElem?_replicate]
  by_cases h : j < 130
  · rw [List.getElem?_range h, if_pos h]; rfl
  · rw [if_neg h, List.getElem?_eq_none (by simp; omega)]; rfl
theorem traceP_zero (P : List Hunk) : traceP P 0 = List.replicate 130 0 := tab_zero _ _
theorem traceK_zero (P : List Hunk) : traceK P 0 = List.replicate 130 false := tab_zero _ _
theorem tab_set {α : Type} (f : Nat → α) (z : α) (o : Nat) : ((List.range 130).map fun i => if i < o then f i else z).set o (f o) = (List.range 130).map fun i => if i < o + 1 then f i else z := by
  apply List.ext_getElem?
  intro j
  rw [List.getElem?_set]
  by_cases h : o = j
  · subst h
    rw [if_pos rfl]
    by_cases h2 : o < 130
    · rw [if_pos (by simpa using h2), List.getElem?_map, List.getElem?_range h2]; simp
    · rw [if_neg (by simpa using h2), List.getElem?_eq_none (by simp; omega)]
  · rw [if_neg h, List.getElem?_map, List.getElem?_map]
    by_cases h2 : j < 130
    · rw [List.getElem?_range h2]
      simp only [Option.map_some]
      congr 1
      by_cases h3 : j < o
      · rw [if_pos h3, if_pos (by omega)]
      · rw [if_neg h3, if_neg (by omega)]
    · rw [List.getElem?_eq_none (by simp; omega)]; rfl
theorem tab_same {α : Type} (f : Nat → α) (z : α) (o : Nat) (hz : f o = z) : ((List.range 130).map fun i => if i < o then f i else z) = (List.range 130).map fun i => if i < o + 1 then f i else z := by
  apply List.map_congr_left
  intro i _
  by_cases h : i = o
  · subst h; rw [if_neg (by omega), if_pos (by omega), hz]
  · by_cases h3 : i < o
    · rw [if_pos h3, if_pos (by omega)]
    · rw [if_neg h3, if_neg (by omega)]
theorem traceP_set {P : List Hunk} {o : Nat} {x : Int} (h : (place P (o : Int) 0).1 = x) : (traceP P o).set o x = traceP P (o + 1) := by
  rw [← h]; exact tab_set (fun i => (place P i 0).1) 0 o
theorem traceK_set {P : List Hunk} {o : Nat} {x : Bool} (h : (place P (o : Int) 0).2 = x) : (traceK P o).set o x = traceK P (o + 1) := by
  rw [← h]; exact tab_set (fun i => (place P i 0).2) false o
theorem traceK_same {P : List Hunk} {o : Nat} (h : (place P (o : Int) 0).2 = false) : traceK P o = traceK P (o + 1) := tab_same (fun i => (place P i 0).2) false o h
theorem traceP_at {P : List Hunk} {k : Nat} (h : k < 130) : (traceP P 130)[k]? = some (place P (k : Int) 0).1 := by
  rw [traceP, List.getElem?_map, List.getElem?_range h]; simp [h]
theorem traceK_at {P : List Hunk} {k : Nat} (h : k < 130) : (traceK P 130)[k]? = some (place P (k : Int) 0).2 := by
  rw [traceK, List.getElem?_map, List.getElem?_range h]; simp [h]
theorem traceP_cell {P : List Hunk} {k : Nat} (h : k < 130) : ((traceP P 130).flatMap intCells).toArray[0 + k * 1]? = some (.int .i64 (place P (k : Int) 0).1) := by
  rw [List.getElem?_toArray]
  have := flat_at (f := intCells) (size := 1) (fun _ => rfl) (traceP P 130) k _ (traceP_at h) 0 _ rfl
  simpa using this
theorem traceK_cell {P : List Hunk} {k : Nat} (h : k < 130) : ((traceK P 130).flatMap boolCells).toArray[0 + k * 1]? = some (.bool (place P (k : Int) 0).2) := by
  rw [List.getElem?_toArray]
  have := flat_at (f := boolCells) (size := 1) (fun _ => rfl) (traceK P 130) k _ (traceK_at h) 0 _ rfl
  simpa using this
end Go.Cf
