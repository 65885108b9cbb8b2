/- Review threads: the functions over a run; what the specification's functions compute. Program independent. -/
import Derived.Test.YtbaojdiccikbiaaThr
import Derived.Test.YtbaojdiccikbiaaLibM
namespace Go.Cf
open Go.RowKit
theorem thr_ne_t {a b : Thr} (h : (!(decide (a.user = b.user) && decide (a.line = b.line) && decide (a.comments = b.comments) && (a.outdated == b.outdated) && (a.resolved == b.resolved))) = true) : a ≠ b := fun e => by
  subst e; simp at h
theorem thr_ne_f {a b : Thr} (h : (!(decide (a.user = b.user) && decide (a.line = b.line) && decide (a.comments = b.comments) && (a.outdated == b.outdated) && (a.resolved == b.resolved))) = false) : a = b := by
  cases a; cases b; simp_all
theorem runFrom_RI : ∀ (es : List Ev) (s s' : St) (k : Nat), RI s k → runFrom k s es = (⟨0, 0⟩, s') → RI s' (k + es.length)
  | [], s, s', k, h, hr => by
    simp only [runFrom, Prod.mk.injEq] at hr
    rw [← hr.2]; exact h
  | e :: es, s, s', k, h, hr => by
    rw [runFrom] at hr
    by_cases h1 : (stepE s e).1 ≠ 0
    · rw [if_pos h1] at hr
      have := congrArg (fun x : Fault × St => x.1.code) hr
      exact absurd this h1
    · rw [if_neg h1] at hr
      have := runFrom_RI es _ s' (k + 1) (stepE_RI h e (Decidable.not_not.1 h1)) hr
      rw [List.length_cons, show k + (es.length + 1) = k + 1 + es.length by omega]; exact this
theorem runFrom_code : ∀ (es : List Ev) (s : St) (k : Nat), (runFrom k s es).1.code = 0 → (runFrom k s es).1 = ⟨0, 0⟩
  | [], s, k, h => rfl
  | e :: es, s, k, h => by
    rw [runFrom] at h ⊢
    by_cases h1 : (stepE s e).1 ≠ 0
    · rw [if_pos h1] at h; exact absurd h h1
    · rw [if_neg h1] at h ⊢; exact runFrom_code es _ _ h
theorem runV_code {text : List ByteArray} {es : List Ev} (h : (runV text es).1.code = 0) : (runV text es).1 = ⟨0, 0⟩ := by
  unfold runV at h ⊢
  by_cases h1 : secondF (linesF text) (-2) ≠ ⟨0, 0⟩
  · rw [if_pos h1] at h
    exfalso; apply h1
    unfold secondF at h ⊢
    by_cases h3 : linesF text ≠ ⟨0, 0⟩
    · rw [if_pos h3] at h; exact absurd (linesF_code h) h3
    · rw [if_neg h3]
  · rw [if_neg h1] at h ⊢
    by_cases h2 : 30 < es.length
    · rw [if_pos h2] at h; cases h
    · rw [if_neg h2] at h ⊢; exact runFrom_code _ _ _ h
theorem runV_ok {text : List ByteArray} {es : List Ev} (h : (runV text es).1 = ⟨0, 0⟩) : linesF text = ⟨0, 0⟩ ∧ es.length ≤ 30 ∧ runFrom 0 ([], text) es = (⟨0, 0⟩, (runV text es).2) ∧ RI (runV text es).2 30 := by
  unfold runV at h ⊢
  by_cases h1 : secondF (linesF text) (-2) ≠ ⟨0, 0⟩
  · rw [if_pos h1] at h; exact absurd h h1
  · rw [if_neg h1] at h ⊢
    by_cases h2 : 30 < es.length
    · rw [if_pos h2] at h; cases h
    · rw [if_neg h2] at h ⊢
      have hl := second_lines (Decidable.not_not.1 h1)
      have he : runFrom 0 ([], text) es = (⟨0, 0⟩, (runFrom 0 ([], text) es).2) := by rw [← h]
      refine ⟨hl, by omega, he, ?_⟩
      exact (runFrom_RI es _ _ 0 (RI.start text (linesF_len hl)) he).up (by omega)
theorem runV_bad {text : List ByteArray} {es : List Ev} (h : (runV text es).1 ≠ ⟨0, 0⟩) : (runV text es).2 = ([], []) := by
  have key : ∀ (es : List Ev) (s : St) (k : Nat), (runFrom k s es).1 ≠ ⟨0, 0⟩ → (runFrom k s es).2 = ([], []) := by
    intro es
    induction es with
    | nil => intro s k h; exact absurd rfl h
    | cons e es ih =>
      intro s k h
      rw [runFrom] at h ⊢
      by_cases h1 : (stepE s e).1 ≠ 0
      · rw [if_pos h1]
      · rw [if_neg h1] at h ⊢; exact ih _ _ h
  unfold runV at h ⊢
  by_cases h1 : secondF (linesF text) (-2) ≠ ⟨0, 0⟩
  · rw [if_pos h1]
  · rw [if_neg h1] at h ⊢
    by_cases h2 : 30 < es.length
    · rw [if_pos h2]
    · rw [if_neg h2] at h ⊢; exact key _ _ _ h
/-- the threads that are not resolved, among the first k -/
def pendK (l : List Thr) (k : Nat) : List Int := ((List.range k).filter fun i => !((l[i]?.map Thr.resolved).getD true)).map fun (i : Nat) => (i : Int)
theorem pendK_yes {l : List Thr} {k : Nat} (h : k < l.length) (hr : l[k].resolved = false) : pendK l (k + 1) = pendK l k ++ [(k : Int)] := by
  unfold pendK
  rw [List.range_succ, List.filter_append, List.map_append]
  congr 1
  simp [h, hr]
theorem pendK_no {l : List Thr} {k : Nat} (h : k < l.length) (hr : l[k].resolved = true) : pendK l (k + 1) = pendK l k := by
  unfold pendK
  rw [List.range_succ, List.filter_append, List.map_append]
  simp [h, hr]
theorem pendK_len (l : List Thr) (k : Nat) : (pendK l k).length ≤ k := by
  unfold pendK
  have := List.length_filter_le (fun i => !((l[i]?.map Thr.resolved).getD true)) (List.range k)
  simpa using this
def pendR (text : List ByteArray) (es : List Ev) : List Int := pendK (runV text es).2.1 (runV text es).2.1.length
/-- open threads at each line -/
def addT (acc : List Int) (t : Thr) : List Int := if t.resolved = false ∧ t.outdated = false then acc.set t.line.toNat (acc[t.line.toNat]?.getD 0 + 1) else acc
def loadK (l : List Thr) (n k : Nat) : List Int := (l.take k).foldl addT (List.replicate n 0)
theorem addT_len (acc : List Int) (t : Thr) : (addT acc t).length = acc.length := by unfold addT; split <;> simp
theorem loadK_zero (l : List Thr) (n : Nat) : loadK l n 0 = List.replicate n 0 := by simp [loadK]
theorem loadK_succ {l : List Thr} {k : Nat} (h : k < l.length) (n : Nat) : loadK l n (k + 1) = addT (loadK l n k) l[k] := by
  rw [loadK, List.take_succ_eq_append_getElem h, List.foldl_append]; rfl
theorem loadK_bd (l : List Thr) (n : Nat) : ∀ k, k ≤ l.length → (loadK l n k).length = n ∧ ∀ x ∈ loadK l n k, 0 ≤ x ∧ x ≤ k
  | 0, _ => by rw [loadK_zero]; exact ⟨by simp, fun x hx => by rw [List.eq_of_mem_replicate hx]; simp⟩
  | k + 1, h => by
    obtain ⟨h1, h2⟩ := loadK_bd l n k (by omega)
    rw [loadK_succ (by omega)]
    refine ⟨by rw [addT_len, h1], fun x hx => ?_⟩
    unfold addT at hx
    split at hx
    · rcases List.mem_or_eq_of_mem_set hx with hx | rfl
      · have := h2 x hx; omega
      · cases hv : (loadK l n k)[l[k].line.toNat]? with
        | none => simp; omega
        | some y => have := h2 y (List.mem_of_getElem? hv); simp; omega
    · have := h2 x hx; omega
def loadR (text : List ByteArray) (es : List Ev) : List Int := loadK (runV text es).2.1 (runV text es).2.2.length (runV text es).2.1.length
theorem loadR_bad {text : List ByteArray} {es : List Ev} (h : (runV text es).1 ≠ ⟨0, 0⟩) : loadR text es = [] ∧ pendR text es = [] := by
  rw [loadR, pendR, runV_bad h]; exact ⟨rfl, rfl⟩
/-- the error code of a comment's text -/
def lineC (s : ByteArray) : Int := if isEmptyS s = true then 5 else lineCode s
theorem formC_4 {e : Ev} (h : e.kind < 1 ∨ 4 < e.kind) : formC e = 4 := by rw [formC, if_pos h]
theorem formC_5 {e : Ev} (h1 : 1 ≤ e.kind) (h2 : e.kind ≤ 4) (hb : (e.thread ≠ 0 ∧ e.kind ≠ 2 ∧ e.kind ≠ 3) ∨ (e.line ≠ 0 ∧ e.kind ≠ 1) ∨ (isEmptyS e.text = false ∧ e.kind ≠ 1 ∧ e.kind ≠ 2) ∨ (0 < e.patch.length ∧ e.kind ≠ 4)) : formC e = 5 := by
  rw [formC, if_neg (by omega), if_pos (by rw [badE]; exact decide_eq_true hb)]
theorem formC_3 {e : Ev} (h1 : 1 ≤ e.kind) (h2 : e.kind ≤ 4) (hb : ¬ ((e.thread ≠ 0 ∧ e.kind ≠ 2 ∧ e.kind ≠ 3) ∨ (e.line ≠ 0 ∧ e.kind ≠ 1) ∨ (isEmptyS e.text = false ∧ e.kind ≠ 1 ∧ e.kind ≠ 2) ∨ (0 < e.patch.length ∧ e.kind ≠ 4))) (hu : e.user < 0 ∨ 7 < e.user) : formC e = 3 := by
  rw [formC, if_neg (by omega), if_neg (by rw [badE, decide_eq_false hb]; simp), if_pos hu]
theorem formC_l {e : Ev} (h1 : 1 ≤ e.kind) (h2 : e.kind ≤ 4) (hb : ¬ ((e.thread ≠ 0 ∧ e.kind ≠ 2 ∧ e.kind ≠ 3) ∨ (e.line ≠ 0 ∧ e.kind ≠ 1) ∨ (isEmptyS e.text = false ∧ e.kind ≠ 1 ∧ e.kind ≠ 2) ∨ (0 < e.patch.length ∧ e.kind ≠ 4))) (hu : ¬ (e.user < 0 ∨ 7 < e.user)) :
    formC e = if e.kind < 3 then lineC e.text else 0 := by
  rw [formC, if_neg (by omega), if_neg (by rw [badE, decide_eq_false hb]; simp), if_neg hu]
  by_cases h3 : e.kind < 3
  · rw [if_pos h3, if_pos (by omega)]; rfl
  · rw [if_neg h3, if_neg (by omega)]
theorem followT_upd {p : List Hunk} {t : Thr} : followT p t = if t.outdated = false ∧ (place p t.line 0).2 = true then { t with line := (place p t.line 0).1 } else { t with outdated := true } := by
  unfold followT
  cases ho : t.outdated with
  | true => simp; cases t; simp_all
  | false =>
    by_cases h : (place p t.line 0).2 = true
    · simp [h]
    · simp [h]
end Go.Cf
