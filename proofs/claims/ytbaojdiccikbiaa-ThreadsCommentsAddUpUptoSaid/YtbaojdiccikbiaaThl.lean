/- Review threads: plain laws over runs. Program independent. -/
import Derived.Test.YtbaojdiccikbiaaThs
namespace Go.Cf
open Go.RowKit
/-- what a later state keeps of an earlier one -/
structure Later (s s' : St) : Prop where
  each : ∀ (i : Nat) (t : Thr), s.1[i]? = some t → ∃ t' : Thr, s'.1[i]? = some t' ∧ t'.user = t.user ∧ (t.outdated = true → t'.outdated = true ∧ t'.line = t.line) ∧ (t'.outdated = false → s'.2[t'.line.toNat]? = s.2[t.line.toNat]?)
theorem Later.refl (s : St) : Later s s := ⟨fun _ t h => ⟨t, h, rfl, fun h => ⟨h, rfl⟩, fun _ => rfl⟩⟩
theorem Later.trans {a b c : St} (h : Later a b) (k : Later b c) : Later a c := ⟨fun i t ht => by
  obtain ⟨t1, h1, h2, h3, h4⟩ := h.each i t ht
  obtain ⟨t2, k1, k2, k3, k4⟩ := k.each i t1 h1
  refine ⟨t2, k1, k2.trans h2, fun ho => ?_, fun ho => ?_⟩
  · obtain ⟨e1, e2⟩ := h3 ho
    obtain ⟨e3, e4⟩ := k3 e1
    exact ⟨e3, e4.trans e2⟩
  · have : t1.outdated = false := by
      cases h5 : t1.outdated with
      | false => rfl
      | true => rw [(k3 h5).1] at ho; cases ho
    rw [k4 ho, h4 this]⟩
theorem stepE_later {s : St} {k : Nat} (h : RI s k) (e : Ev) (h0 : (stepE s e).1 = 0) : Later s (stepE s e).2 := by
  unfold stepE at h0 ⊢
  by_cases h1 : formC e ≠ 0
  · rw [if_pos h1] at h0; exact absurd h0 h1
  rw [if_neg h1] at h0 ⊢
  by_cases h2 : e.kind = 1
  · rw [if_pos h2] at h0 ⊢
    by_cases h3 : e.line < 0 ∨ (s.2.length : Int) ≤ e.line
    · rw [if_pos h3] at h0; cases h0
    rw [if_neg h3] at h0 ⊢
    by_cases h4 : 12 ≤ s.1.length
    · rw [if_pos h4] at h0; cases h0
    rw [if_neg h4] at h0 ⊢
    refine ⟨fun i t ht => ⟨t, ?_, rfl, fun h => ⟨h, rfl⟩, fun _ => rfl⟩⟩
    have := (List.getElem?_eq_some_iff.1 ht).1
    show (s.1 ++ _)[i]? = _
    rw [List.getElem?_append_left this]; exact ht
  rw [if_neg h2] at h0 ⊢
  by_cases h3 : e.kind = 4
  · rw [if_pos h3] at h0 ⊢
    unfold patchT at h0 ⊢
    by_cases h4 : applyF e.patch s.2 ≠ ⟨0, 0⟩
    · rw [if_pos h4] at h0; exact absurd (applyF_code h0).1 h4
    rw [if_neg h4] at h0 ⊢
    have ha := (applyF_code (hs := e.patch) (text := s.2) (by rw [Decidable.not_not.1 h4])).2.1
    refine ⟨fun i t ht => ⟨followT e.patch t, ?_, followT_user _ _, fun ho => ?_, fun ho => ?_⟩⟩
    · show (s.1.map _)[i]? = _
      rw [List.getElem?_map, ht]; rfl
    · rw [followT_out ho]; exact ⟨ho, rfl⟩
    · obtain ⟨c1, c2, c3⟩ := followT_cur ho
      have htm := List.mem_of_getElem? ht
      show (rawFrom 0 e.patch s.2)[_]? = _
      rw [c3, (kept_line ha (h.lo t htm) (h.cur t htm c1) c2).2.2]
  rw [if_neg h3] at h0 ⊢
  cases ht : s.1[e.thread.toNat]? with
  | none => rw [ht] at h0; cases h0
  | some t =>
    rw [ht] at h0
    simp only at h0 ⊢
    have key : ∀ t' : Thr, t'.user = t.user → t'.line = t.line → t'.outdated = t.outdated → Later s (s.1.set e.thread.toNat t', s.2) := by
      intro t' e0 e1 e2
      refine ⟨fun i u hu => ?_⟩
      by_cases hi : e.thread.toNat = i
      · subst hi
        rw [ht] at hu
        injection hu with hu
        subst hu
        refine ⟨t', ?_, e0, fun ho => ⟨e2.trans ho, e1⟩, fun _ => by rw [e1]⟩
        show (s.1.set _ _)[_]? = _
        rw [List.getElem?_set_self (List.getElem?_eq_some_iff.1 ht).1]
      · refine ⟨u, ?_, rfl, fun ho => ⟨ho, rfl⟩, fun _ => rfl⟩
        show (s.1.set _ _)[_]? = _
        rw [List.getElem?_set_ne hi]; exact hu
    by_cases h5 : e.thread < 0
    · rw [if_pos h5] at h0; cases h0
    rw [if_neg h5] at h0 ⊢
    by_cases h6 : e.kind = 2
    · rw [if_pos h6]; exact key _ rfl rfl rfl
    rw [if_neg h6] at h0 ⊢
    by_cases h7 : t.resolved = true
    · rw [if_pos h7] at h0; cases h0
    rw [if_neg h7] at h0 ⊢
    by_cases h8 : t.user ≠ e.user
    · rw [if_pos h8] at h0; cases h0
    rw [if_neg h8]; exact key _ rfl rfl rfl
theorem runFrom_append : ∀ (a b : List Ev) (s : St) (k : Nat), runFrom k s (a ++ b) = if (runFrom k s a).1 = ⟨0, 0⟩ then runFrom (k + a.length) (runFrom k s a).2 b else runFrom k s a
  | [], b, s, k => by simp [runFrom]
  | e :: a, b, s, k => by
    rw [List.cons_append, runFrom, runFrom]
    by_cases h1 : (stepE s e).1 ≠ 0
    · rw [if_pos h1, if_pos h1, if_neg (by intro h; exact h1 (congrArg Fault.code h))]
    · rw [if_neg h1, if_neg h1, runFrom_append a b, List.length_cons, show k + 1 + a.length = k + (a.length + 1) by omega]
theorem runFrom_later : ∀ (es : List Ev) (s s' : St) (k : Nat), RI s k → runFrom k s es = (⟨0, 0⟩, s') → Later s s'
  | [], s, s', k, _, hr => by
    simp only [runFrom, Prod.mk.injEq] at hr
    rw [← hr.2]; exact Later.refl s
  | e :: es, s, s', k, h, hr => by
    rw [runFrom] at hr
    by_cases h1 : (stepE s e).1 ≠ 0
    · rw [if_pos h1] at hr
      exact absurd (congrArg (fun x : Fault × St => x.1.code) hr) h1
    · rw [if_neg h1] at hr
      have h2 := Decidable.not_not.1 h1
      exact (stepE_later h e h2).trans (runFrom_later es _ s' (k + 1) (stepE_RI h e h2) hr)
/-- a run that succeeds, cut in two -/
theorem run_cut {text : List ByteArray} {es : List Ev} (h : (runV text es).1 = ⟨0, 0⟩) {n : Nat} (hn : n ≤ es.length) : (runV text (es.take n)).1 = ⟨0, 0⟩ ∧ RI (runV text (es.take n)).2 n ∧ runFrom n (runV text (es.take n)).2 (es.drop n) = (⟨0, 0⟩, (runV text es).2) ∧ Later (runV text (es.take n)).2 (runV text es).2 := by
  obtain ⟨hl, h30, hr, _⟩ := runV_ok h
  have hsl : secondF (linesF text) (-2) = ⟨0, 0⟩ := by rw [secondF, if_neg (by simp [hl])]
  have hV : runV text (es.take n) = runFrom 0 ([], text) (es.take n) := by rw [runV, if_neg (by simp [hsl]), if_neg (by simp; omega)]
  have hA := runFrom_append (es.take n) (es.drop n) ([], text) 0
  rw [List.take_append_drop, hr, ← hV] at hA
  have h1 : (runV text (es.take n)).1 = ⟨0, 0⟩ := by
    apply Classical.byContradiction
    intro hne
    rw [if_neg hne] at hA
    exact hne (congrArg Prod.fst hA).symm
  rw [if_pos h1, Nat.zero_add, List.length_take, Nat.min_eq_left hn] at hA
  have hri : RI (runV text (es.take n)).2 n := by
    have := runFrom_RI (es.take n) ([], text) (runV text (es.take n)).2 0 (RI.start text (linesF_len hl)) (by rw [← hV, ← h1])
    rw [Nat.zero_add, List.length_take, Nat.min_eq_left hn] at this
    exact this
  exact ⟨h1, hri, hA.symm, runFrom_later _ _ _ _ hri hA.symm⟩
/-- how many of the first k events open a thread -/
def opens (es : List Ev) (k : Nat) : Nat := ((es.take k).filter fun e => decide (e.kind = 1)).length
theorem opens_yes {es : List Ev} {k : Nat} (h : k < es.length) (h1 : es[k].kind = 1) : opens es (k + 1) = opens es k + 1 := by
  rw [opens, List.take_succ_eq_append_getElem h, List.filter_append, List.length_append]; simp [h1, opens]
theorem opens_no {es : List Ev} {k : Nat} (h : k < es.length) (h1 : ¬ es[k].kind = 1) : opens es (k + 1) = opens es k := by
  rw [opens, List.take_succ_eq_append_getElem h, List.filter_append, List.length_append]; simp [h1, opens]
theorem opens_le (es : List Ev) (k : Nat) : opens es k ≤ k := by
  have := List.length_filter_le (fun e : Ev => decide (e.kind = 1)) (es.take k)
  have h2 := List.length_take_le k es
  unfold opens; omega
/-- what one event does to the number of threads and to the comments -/
def sumC (l : List Thr) : Int := (l.map Thr.comments).sum
theorem sum_set {l : List Thr} {i : Nat} {t t' : Thr} (h : l[i]? = some t) : sumC (l.set i t') = sumC l + t'.comments - t.comments := by
  induction l generalizing i with
  | nil => simp at h
  | cons a l ih =>
    cases i with
    | zero => simp at h; subst h; simp [sumC]; omega
    | succ i => simp at h; have := ih h; simp [sumC] at this ⊢; omega
theorem stepE_count {s : St} {e : Ev} (h0 : (stepE s e).1 = 0) : (stepE s e).2.1.length = s.1.length + (if e.kind = 1 then 1 else 0) ∧ sumC (stepE s e).2.1 = sumC s.1 + (if e.kind = 1 ∨ e.kind = 2 then 1 else 0) ∧ (e.kind = 1 → (stepE s e).2 = (s.1 ++ [⟨e.user, e.line, 1, false, false⟩], s.2) ∧ 0 ≤ e.line ∧ e.line < s.2.length) := by
  unfold stepE at h0 ⊢
  by_cases h1 : formC e ≠ 0
  · rw [if_pos h1] at h0; exact absurd h0 h1
  rw [if_neg h1] at h0 ⊢
  by_cases h2 : e.kind = 1
  · rw [if_pos h2] at h0 ⊢
    by_cases h3 : e.line < 0 ∨ (s.2.length : Int) ≤ e.line
    · rw [if_pos h3] at h0; cases h0
    rw [if_neg h3] at h0 ⊢
    by_cases h4 : 12 ≤ s.1.length
    · rw [if_pos h4] at h0; cases h0
    rw [if_neg h4, if_pos h2, if_pos (.inl h2)]
    exact ⟨by simp, by simp [sumC, List.sum_append], fun _ => ⟨rfl, by omega, by omega⟩⟩
  rw [if_neg h2] at h0 ⊢
  rw [if_neg h2]
  by_cases h3 : e.kind = 4
  · rw [if_pos h3] at h0 ⊢
    rw [if_neg (show ¬ (e.kind = 1 ∨ e.kind = 2) by omega)]
    unfold patchT at h0 ⊢
    by_cases h4 : applyF e.patch s.2 ≠ ⟨0, 0⟩
    · rw [if_pos h4] at h0; exact absurd (applyF_code h0).1 h4
    rw [if_neg h4]
    refine ⟨by simp, ?_, fun h => absurd h h2⟩
    have : (s.1.map (followT e.patch)).map Thr.comments = s.1.map Thr.comments := by
      rw [List.map_map]; exact List.map_congr_left fun t _ => followT_comments _ _
    simp [sumC, this]
  rw [if_neg h3] at h0 ⊢
  cases ht : s.1[e.thread.toNat]? with
  | none => rw [ht] at h0; cases h0
  | some t =>
    rw [ht] at h0
    simp only at h0 ⊢
    by_cases h5 : e.thread < 0
    · rw [if_pos h5] at h0; cases h0
    rw [if_neg h5] at h0 ⊢
    by_cases h6 : e.kind = 2
    · rw [if_pos h6, if_pos (.inr h6)]
      exact ⟨by simp, by rw [sum_set ht]; simp only; omega, fun h => absurd h h2⟩
    rw [if_neg h6] at h0 ⊢
    rw [if_neg (show ¬ (e.kind = 1 ∨ e.kind = 2) by omega)]
    by_cases h7 : t.resolved = true
    · rw [if_pos h7] at h0; cases h0
    rw [if_neg h7] at h0 ⊢
    by_cases h8 : t.user ≠ e.user
    · rw [if_pos h8] at h0; cases h0
    rw [if_neg h8]
    exact ⟨by simp, by rw [sum_set ht]; simp only; omega, fun h => absurd h h2⟩
/-- comments among the first k events -/
def saidK (es : List Ev) (k : Nat) : Nat := ((es.take k).filter fun e => decide (e.kind = 1) || decide (e.kind = 2)).length
theorem saidK_yes {es : List Ev} {k : Nat} (h : k < es.length) (h1 : es[k].kind = 1 ∨ es[k].kind = 2) : saidK es (k + 1) = saidK es k + 1 := by
  rw [saidK, List.take_succ_eq_append_getElem h, List.filter_append, List.length_append]
  rcases h1 with h1 | h1 <;> simp [h1, saidK]
theorem saidK_no {es : List Ev} {k : Nat} (h : k < es.length) (h1 : ¬ (es[k].kind = 1 ∨ es[k].kind = 2)) : saidK es (k + 1) = saidK es k := by
  rw [saidK, List.take_succ_eq_append_getElem h, List.filter_append, List.length_append]
  have h2 : es[k].kind ≠ 1 := fun h => h1 (.inl h)
  have h3 : es[k].kind ≠ 2 := fun h => h1 (.inr h)
  simp [h2, h3, saidK]
theorem saidK_le (es : List Ev) (k : Nat) : saidK es k ≤ k := by
  have := List.length_filter_le (fun e : Ev => decide (e.kind = 1) || decide (e.kind = 2)) (es.take k)
  have h2 := List.length_take_le k es
  unfold saidK; omega
theorem run_next {text : List ByteArray} {es : List Ev} (h : (runV text es).1 = ⟨0, 0⟩) {k : Nat} (hk : k < es.length) : (stepE (runV text (es.take k)).2 es[k]).1 = 0 ∧ (runV text (es.take (k + 1))).2 = (stepE (runV text (es.take k)).2 es[k]).2 := by
  obtain ⟨_, _, h3, _⟩ := run_cut h (n := k) (by omega)
  obtain ⟨_, _, h30, _⟩ := runV_ok h
  obtain ⟨e1, _, e3, _⟩ := run_cut h (n := k + 1) (by omega)
  rw [List.drop_eq_getElem_cons hk, runFrom] at h3
  by_cases h1 : (stepE (runV text (es.take k)).2 es[k]).1 ≠ 0
  · rw [if_pos h1] at h3
    exact absurd (congrArg (fun x : Fault × St => x.1.code) h3) h1
  · refine ⟨Decidable.not_not.1 h1, ?_⟩
    obtain ⟨hl, h30', _, _⟩ := runV_ok h
    have hsl : secondF (linesF text) (-2) = ⟨0, 0⟩ := by rw [secondF, if_neg (by simp [hl])]
    have hV : ∀ n, runV text (es.take n) = runFrom 0 ([], text) (es.take n) := fun n => by rw [runV, if_neg (by simp [hsl]), if_neg (by simp; omega)]
    have hk0 := (run_cut h (n := k) (by omega)).1
    have hA := runFrom_append (es.take k) [es[k]] ([], text) 0
    rw [← List.take_succ_eq_append_getElem hk, ← hV, ← hV, if_pos hk0] at hA
    rw [hA, runFrom, if_neg h1, runFrom]
theorem run_opens {text : List ByteArray} {es : List Ev} (h : (runV text es).1 = ⟨0, 0⟩) : ∀ k, k ≤ es.length → (runV text (es.take k)).2.1.length = opens es k ∧ sumC (runV text (es.take k)).2.1 = saidK es k
  | 0, _ => by
    obtain ⟨hl, _, _, _⟩ := runV_ok h
    have hsl : secondF (linesF text) (-2) = ⟨0, 0⟩ := by rw [secondF, if_neg (by simp [hl])]
    rw [List.take_zero, runV, if_neg (by simp [hsl]), if_neg (by simp), runFrom]
    simp [opens, saidK, sumC]
  | k + 1, hk => by
    obtain ⟨h1, h2⟩ := run_opens h k (by omega)
    have hk' : k < es.length := by omega
    obtain ⟨n1, n2⟩ := run_next h hk'
    obtain ⟨c1, c2, _⟩ := stepE_count n1
    rw [n2, c1, c2, h1, h2]
    constructor
    · by_cases h5 : es[k].kind = 1
      · rw [if_pos h5, opens_yes hk' h5]
      · rw [if_neg h5, opens_no hk' h5]; rfl
    · by_cases h5 : es[k].kind = 1 ∨ es[k].kind = 2
      · rw [if_pos h5, saidK_yes hk' h5]; omega
      · rw [if_neg h5, saidK_no hk' h5]; omega
/-- law 13: the thread that event k opens -/
theorem run_stay {text : List ByteArray} {es : List Ev} (h : (runV text es).1 = ⟨0, 0⟩) {k : Nat} (hk : k < es.length) (h1 : es[k].kind = 1) :
    opens es k < (runV text es).2.1.length ∧ 0 ≤ es[k].line ∧ es[k].line < (runV text (es.take k)).2.2.length ∧ ∀ t, (runV text es).2.1[opens es k]? = some t → t.outdated = false → 0 ≤ t.line ∧ t.line < (runV text es).2.2.length ∧ (runV text es).2.2[t.line.toNat]? = (runV text (es.take k)).2.2[es[k].line.toNat]? := by
  obtain ⟨n1, n2⟩ := run_next h hk
  obtain ⟨_, _, c3⟩ := stepE_count n1
  obtain ⟨c4, c5, c6⟩ := c3 h1
  obtain ⟨hop, _⟩ := run_opens h k (by omega)
  obtain ⟨_, _, _, hlat⟩ := run_cut h (n := k + 1) (by omega)
  rw [n2, c4] at hlat
  obtain ⟨t', ht', _, _, hcur⟩ := hlat.each (opens es k) ⟨es[k].user, es[k].line, 1, false, false⟩ (by show (_ ++ _)[_]? = _; rw [List.getElem?_append_right (by omega), hop]; simp)
  refine ⟨(List.getElem?_eq_some_iff.1 ht').1, c5, c6, fun t ht ho => ?_⟩
  rw [ht'] at ht
  injection ht with ht
  subst ht
  obtain ⟨_, _, _, hri⟩ := runV_ok h
  have hm := List.mem_of_getElem? ht'
  exact ⟨hri.lo _ hm, hri.cur _ hm ho, hcur ho⟩
theorem runV_snoc {text : List ByteArray} {es : List Ev} {e : Ev} (h : (runV text (es ++ [e])).1 = ⟨0, 0⟩) : (runV text es).1 = ⟨0, 0⟩ ∧ (stepE (runV text es).2 e).1 = 0 ∧ (runV text (es ++ [e])).2 = (stepE (runV text es).2 e).2 := by
  have h1 := run_cut h (n := es.length) (by simp)
  rw [List.take_left' rfl] at h1
  obtain ⟨n1, n2⟩ := run_next h (k := es.length) (by simp)
  rw [List.take_left' rfl] at n1 n2
  rw [show (es ++ [e])[es.length]'(by simp) = e by simp] at n1 n2
  refine ⟨h1.1, n1, ?_⟩
  rw [← n2, List.take_of_length_le (by simp)]
/-- law 14: a reply makes its thread pending -/
theorem run_reply {text : List ByteArray} {es : List Ev} {e : Ev} (hk : e.kind = 2) (h : (runV text (es ++ [e])).1 = ⟨0, 0⟩) : e.thread ∈ pendR text (es ++ [e]) := by
  obtain ⟨h0, h1, h2⟩ := runV_snoc h
  have hf : formC e = 0 := by
    apply Classical.byContradiction
    intro hf
    rw [stepE, if_pos hf] at h1; exact hf h1
  have hr : 0 ≤ e.thread ∧ e.thread < (runV text es).2.1.length := by
    apply Classical.byContradiction
    intro hn
    rw [stepE_miss hf (by omega) (by omega) hn] at h1; cases h1
  obtain ⟨t, ht⟩ : ∃ t, (runV text es).2.1[e.thread.toNat]? = some t := ⟨_, List.getElem?_eq_getElem (by omega)⟩
  rw [pendR, h2, stepE_hit hf (by omega) (by omega) hr.1 ht, if_pos hk]
  simp only [pendK, List.mem_map, List.mem_filter, List.mem_range, List.length_set]
  refine ⟨e.thread.toNat, ⟨by omega, ?_⟩, by omega⟩
  rw [List.getElem?_set_self (by omega)]; rfl
/-- law 15: a new version without hunks -/
theorem run_empty {text : List ByteArray} {es : List Ev} {e : Ev} (hk : e.kind = 4) (hp : e.patch = []) (h : (runV text (es ++ [e])).1 = ⟨0, 0⟩) : (runV text (es ++ [e])).2 = (runV text es).2 := by
  obtain ⟨h0, h1, h2⟩ := runV_snoc h
  have hf : formC e = 0 := by
    apply Classical.byContradiction
    intro hf
    rw [stepE, if_pos hf] at h1; exact hf h1
  rw [h2]
  rw [stepE_patch hf hk] at h1 ⊢
  unfold patchT at h1 ⊢
  rw [hp] at h1 ⊢
  by_cases h4 : applyF [] (runV text es).2.2 ≠ ⟨0, 0⟩
  · rw [if_pos h4] at h1; exact absurd (applyF_code h1).1 h4
  rw [if_neg h4]
  have e1 : (runV text es).2.1.map (followT []) = (runV text es).2.1 := by
    rw [List.map_congr_left (g := id)]
    · simp
    · intro t _
      unfold followT
      cases ho : t.outdated with
      | true => simp
      | false => simp [place]; cases t; simp_all
  rw [e1, rawFrom, List.drop_zero]
end Go.Cf
namespace Go.Cf
open Go.RowKit
abbrev exTx : List ByteArray := [⟨#[97]⟩, ⟨#[98]⟩]
abbrev exEv : List Ev := [⟨1, 1, 0, 1, ⟨#[119, 104, 121]⟩, []⟩, ⟨4, 0, 0, 0, .empty, [⟨0, [], [⟨#[120]⟩]⟩]⟩]
theorem ex_run : runV exTx exEv = (⟨0, 0⟩, ([⟨1, 2, 1, false, false⟩], [⟨#[120]⟩, ⟨#[97]⟩, ⟨#[98]⟩])) := by decide +kernel
theorem ex_pend : pendR exTx exEv = [0] := by decide +kernel
theorem ex_load : loadR exTx exEv = [0, 0, 1] := by decide +kernel
theorem EvsR.cut {w : World} {lo : Nat} {E : Option Addr} {es : List EvC} (h : EvsR w lo E es) {k cap : Nat} (hk : k ≤ es.length) (hc : es.length ≤ cap) : EvsR w lo (if cap = 0 then E else E.map (·.add (0 * 6))) (es.take k) := by
  refine ⟨?_, fun e he => h.each e (List.mem_of_mem_take he)⟩
  have := h.rd.cut (i := 0) (j := k) (cap := cap) (Nat.zero_le _) hk hc
  rwa [List.drop_zero, Nat.sub_zero] at this
section
variable {w0 w : World} {T : List Reg}
theorem some_reads (i : Nat) {r : Reg} {α : Type} {f : α → List Value} {size k : Nat} {A : Option Addr} {l : List α} (hM : Mem w0 T w) (hi : T[i]? = some r) (h : ∀ w1, r.ok w1 → Rdl w1 0 size f A l) (hk : k < l.length) : ∃ ad, A = some ad := by
  obtain ⟨ad, e, _⟩ := (h w (hM.ok _ (List.mem_of_getElem? hi))).at_ hk
  exact ⟨ad, e⟩
theorem cells_reads (i : Nat) {r : Reg} {α : Type} {f : α → List Value} {size k : Nat} {ad : Addr} {l : List α} (hi : T[i]? = some r) (h : ∀ w1, r.ok w1 → Rdl w1 0 size f (some ad) l) (hk : k < l.length) : ∀ j u, (f l[k])[j]? = some u → Cell w0 T (ad.add (k * size + j)) u := fun j u hu w hM => by
  obtain ⟨ad', e, _, hc⟩ := (h w (hM.ok _ (List.mem_of_getElem? hi))).at_ hk
  injection e with e
  subst e
  exact hc j u hu
end
theorem sumC_take {l : List Thr} {k : Nat} (h : k < l.length) : sumC (l.take (k + 1)) = sumC (l.take k) + l[k].comments := by
  rw [List.take_succ_eq_append_getElem h, sumC, List.map_append, List.sum_append]
  simp only [List.map_cons, List.map_nil, List.sum_cons, List.sum_nil, Int.add_zero]; rfl
theorem sumC_bd {l : List Thr} (h0 : ∀ t ∈ l, 0 ≤ t.comments) (h1 : ∀ t ∈ l, t.comments ≤ 30) : ∀ k, k ≤ l.length → 0 ≤ sumC (l.take k) ∧ sumC (l.take k) ≤ 30 * k
  | 0, _ => by simp [sumC]
  | k + 1, h => by
    have ih := sumC_bd h0 h1 k (by omega)
    have hk : k < l.length := by omega
    have a := h0 _ (List.getElem_mem hk)
    have b := h1 _ (List.getElem_mem hk)
    rw [sumC_take hk]; omega
end Go.Cf
