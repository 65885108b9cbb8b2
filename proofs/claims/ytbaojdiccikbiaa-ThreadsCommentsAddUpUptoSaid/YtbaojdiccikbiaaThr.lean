/- Review threads: plain data, what the functions compute. Program independent. -/
import Derived.Test.YtbaojdiccikbiaaPatchP
namespace Go.Cf
open Go.RowKit
structure Thr where
  user : Int
  line : Int
  comments : Int
  outdated : Bool
  resolved : Bool
  deriving DecidableEq
abbrev thrCells (t : Thr) : List Value := [.int .i64 t.user, .int .i64 t.line, .int .i64 t.comments, .bool t.outdated, .bool t.resolved]
abbrev thrV (t : Thr) : Value := .agg #[.int .i64 t.user, .int .i64 t.line, .int .i64 t.comments, .bool t.outdated, .bool t.resolved]
theorem wide_thr : Wide thrCells 5 := fun _ => ⟨rfl, by simp [thrCells, Value.oneCell']⟩
structure Ev where
  kind : Int
  user : Int
  thread : Int
  line : Int
  text : ByteArray
  patch : List Hunk
structure EvC where
  kind : Int
  user : Int
  thread : Int
  line : Int
  text : ByteArray
  A : Option Addr
  c : Nat
  hs : List HunkC
abbrev EvC.pl (e : EvC) : Ev := ⟨e.kind, e.user, e.thread, e.line, e.text, pls e.hs⟩
abbrev evCells (e : EvC) : List Value := [.int .i64 e.kind, .int .i64 e.user, .int .i64 e.thread, .int .i64 e.line, .string e.text, .slice e.A e.hs.length e.c]
abbrev evV (e : EvC) : Value := .agg #[.int .i64 e.kind, .int .i64 e.user, .int .i64 e.thread, .int .i64 e.line, .string e.text, .slice e.A e.hs.length e.c]
theorem wide_ev : Wide evCells 6 := fun _ => ⟨rfl, by simp [evCells, Value.oneCell']⟩
structure EvR (w : World) (lo : Nat) (e : EvC) : Prop where
  pat : PatR w lo e.A e.c e.hs
theorem EvR.lasts {lo : Nat} {e : EvC} : Lasts lo (fun w => EvR w lo e) := fun w w' hR hk => ⟨PatR.lasts w w' hR.pat hk⟩
theorem EvR.mono {w : World} {lo lo' : Nat} {e : EvC} (hR : EvR w lo e) (hl : lo' ≤ lo) : EvR w lo' e := ⟨hR.pat.mono hl⟩
structure EvsR (w : World) (lo : Nat) (A : Option Addr) (es : List EvC) : Prop where
  rd : Rdl w lo 6 evCells A es
  each : ∀ e ∈ es, EvR w lo e
theorem EvsR.lasts {lo : Nat} {A : Option Addr} {es : List EvC} : Lasts lo (fun w => EvsR w lo A es) := fun w w' hR hk => ⟨hR.rd.keep hk, fun e he => EvR.lasts w w' (hR.each e he) hk⟩
abbrev evs (es : List EvC) : List Ev := es.map EvC.pl

def isEmptyS (s : ByteArray) : Bool := s.toList == (ByteArray.mk #[]).toList
def badE (e : Ev) : Bool := decide ((e.thread ≠ 0 ∧ e.kind ≠ 2 ∧ e.kind ≠ 3) ∨ (e.line ≠ 0 ∧ e.kind ≠ 1) ∨ (isEmptyS e.text = false ∧ e.kind ≠ 1 ∧ e.kind ≠ 2) ∨ (0 < e.patch.length ∧ e.kind ≠ 4))
/-- the error code of an event by itself -/
def formC (e : Ev) : Int :=
  if e.kind < 1 ∨ 4 < e.kind then 4 else
  if badE e = true then 5 else
  if e.user < 0 ∨ 7 < e.user then 3 else
  if e.kind = 1 ∨ e.kind = 2 then (if isEmptyS e.text = true then 5 else lineCode e.text) else 0
def followT (p : List Hunk) (t : Thr) : Thr :=
  if t.outdated = true then t else if (place p t.line 0).2 = true then { t with line := (place p t.line 0).1, outdated := false } else { t with outdated := true }
abbrev St := List Thr × List ByteArray
def inR (l : List Thr) (n : Int) : Bool := decide (0 ≤ n) && decide (n < l.length)
def setAt (l : List Thr) (n : Int) (f : Thr → Thr) : List Thr := l.modify n.toNat f
def patchT (s : St) (p : List Hunk) : Int × St := if applyF p s.2 ≠ ⟨0, 0⟩ then ((applyF p s.2).code, s) else (0, (s.1.map (followT p), rawFrom 0 p s.2))
/-- one event -/
def stepE (s : St) (e : Ev) : Int × St :=
  if formC e ≠ 0 then (formC e, s) else
  if e.kind = 1 then (if e.line < 0 ∨ (s.2.length : Int) ≤ e.line then (3, s) else if 12 ≤ s.1.length then (14, s) else (0, (s.1 ++ [⟨e.user, e.line, 1, false, false⟩], s.2))) else
  if e.kind = 4 then patchT s e.patch else
  match s.1[e.thread.toNat]? with
  | none => (6, s)
  | some t =>
    if e.thread < 0 then (6, s) else
    if e.kind = 2 then (0, (s.1.set e.thread.toNat { t with comments := t.comments + 1, resolved := false }, s.2)) else
    if t.resolved = true then (11, s) else
    if t.user ≠ e.user then (13, s) else (0, (s.1.set e.thread.toNat { t with resolved := true }, s.2))
def runFrom (i : Nat) (s : St) : List Ev → Fault × St
  | [] => (⟨0, 0⟩, s)
  | e :: es => if (stepE s e).1 ≠ 0 then (⟨(stepE s e).1, i⟩, ([], [])) else runFrom (i + 1) (stepE s e).2 es
def runV (text : List ByteArray) (es : List Ev) : Fault × St :=
  if secondF (linesF text) (-2) ≠ ⟨0, 0⟩ then (secondF (linesF text) (-2), ([], [])) else if 30 < es.length then (⟨2, -1⟩, ([], [])) else runFrom 0 ([], text) es
theorem runFrom_drop {es : List Ev} {k : Nat} (h : k < es.length) (i : Nat) (s : St) : runFrom i s (es.drop k) = if (stepE s es[k]).1 ≠ 0 then (⟨(stepE s es[k]).1, i⟩, ([], [])) else runFrom (i + 1) (stepE s es[k]).2 (es.drop (k + 1)) := by
  rw [List.drop_eq_getElem_cons h, runFrom]
/-- what holds of a review's state behind k events -/
structure RI (s : St) (k : Nat) : Prop where
  few : s.1.length ≤ 12
  len : s.2.length ≤ 120
  lo : ∀ t ∈ s.1, 0 ≤ t.line
  hi : ∀ t ∈ s.1, t.line ≤ 120
  cur : ∀ t ∈ s.1, t.outdated = false → t.line < s.2.length
  clo : ∀ t ∈ s.1, 0 ≤ t.comments
  chi : ∀ t ∈ s.1, t.comments ≤ k
theorem RI.up {s : St} {k k' : Nat} (h : RI s k) (hk : k ≤ k') : RI s k' := ⟨h.few, h.len, h.lo, h.hi, h.cur, h.clo, fun t ht => by have := h.chi t ht; omega⟩
theorem followT_user (p : List Hunk) (t : Thr) : (followT p t).user = t.user := by unfold followT; split; rfl; split <;> rfl
theorem followT_comments (p : List Hunk) (t : Thr) : (followT p t).comments = t.comments := by unfold followT; split; rfl; split <;> rfl
theorem followT_resolved (p : List Hunk) (t : Thr) : (followT p t).resolved = t.resolved := by unfold followT; split; rfl; split <;> rfl
theorem followT_out {p : List Hunk} {t : Thr} (h : t.outdated = true) : followT p t = t := by rw [followT, if_pos h]
/-- a thread that is not outdated behind a patch -/
theorem followT_cur {p : List Hunk} {t : Thr} (h : (followT p t).outdated = false) : t.outdated = false ∧ (place p t.line 0).2 = true ∧ (followT p t).line = (place p t.line 0).1 := by
  by_cases h1 : t.outdated = true
  · rw [followT_out h1] at h; rw [h] at h1; cases h1
  · have h1' : t.outdated = false := by simpa using h1
    rw [followT, if_neg h1] at h ⊢
    by_cases h2 : (place p t.line 0).2 = true
    · rw [if_pos h2]; exact ⟨h1', h2, rfl⟩
    · rw [if_neg h2] at h; cases h
theorem followT_line {p : List Hunk} {t : Thr} (h : (followT p t).outdated = true) : (followT p t).line = t.line := by
  by_cases h1 : t.outdated = true
  · rw [followT_out h1]
  · rw [followT, if_neg h1] at h ⊢
    by_cases h2 : (place p t.line 0).2 = true
    · rw [if_pos h2] at h; cases h
    · rw [if_neg h2]
/-- a kept line of a text and the text behind the patch -/
theorem kept_line {p : List Hunk} {text : List ByteArray} (a : AppOk p text) {line : Int} (h0 : 0 ≤ line) (h1 : line < text.length) (hk : (place p line 0).2 = true) :
    0 ≤ (place p line 0).1 ∧ (place p line 0).1 < (rawFrom 0 p text).length ∧ (rawFrom 0 p text)[(place p line 0).1.toNat]? = text[line.toNat]? := by
  obtain ⟨i, rfl⟩ := Int.eq_ofNat_of_zero_le h0
  obtain ⟨j, hj, hr⟩ := kept_text a (i := i) (by omega) hk
  have hlt := (List.getElem?_eq_some_iff.1 hr).1
  rw [hj]
  refine ⟨by omega, by omega, ?_⟩
  rw [Int.toNat_natCast, Int.toNat_natCast, hr, List.getElem?_eq_getElem (by omega)]
theorem stepE_RI {s : St} {k : Nat} (h : RI s k) (e : Ev) (h0 : (stepE s e).1 = 0) : RI (stepE s e).2 (k + 1) := by
  unfold stepE at h0 ⊢
  by_cases h1 : formC e ≠ 0
  · rw [if_pos h1] at h0; exact absurd h0 h1
  rw [if_neg h1] at h0 ⊢
  by_cases h2 : e.kind = 1
  · rw [if_pos h2] at h0 ⊢
    by_cases h3 : e.line < 0 ∨ (s.2.length : Int) ≤ e.line
    · rw [if_pos h3] at h0; cases h0
    rw [if_neg h3] at h0 ⊢
    by_cases h4 : 12 ≤ s.1.length
    · rw [if_pos h4] at h0; cases h0
    rw [if_neg h4] at h0 ⊢
    have hl := h.len
    refine ⟨by simp; omega, h.len, fun t ht => ?_, fun t ht => ?_, fun t ht ho => ?_, fun t ht => ?_, fun t ht => ?_⟩ <;> rcases List.mem_append.1 ht with ht | ht
    · exact h.lo t ht
    · rw [List.mem_singleton.1 ht]; show 0 ≤ e.line; omega
    · exact h.hi t ht
    · rw [List.mem_singleton.1 ht]; show e.line ≤ 120; omega
    · exact h.cur t ht ho
    · rw [List.mem_singleton.1 ht]; show e.line < (s.2.length : Int); omega
    · exact h.clo t ht
    · rw [List.mem_singleton.1 ht]; show (0 : Int) ≤ 1; omega
    · have := h.chi t ht; omega
    · rw [List.mem_singleton.1 ht]; show (1 : Int) ≤ _; omega
  rw [if_neg h2] at h0 ⊢
  by_cases h3 : e.kind = 4
  · rw [if_pos h3] at h0 ⊢
    unfold patchT at h0 ⊢
    by_cases h4 : applyF e.patch s.2 ≠ ⟨0, 0⟩
    · rw [if_pos h4] at h0
      exact absurd (applyF_code h0).1 h4
    rw [if_neg h4] at h0 ⊢
    have ha := (applyF_code (hs := e.patch) (text := s.2) (by rw [Decidable.not_not.1 h4])).2.1
    have hb : ∀ t ∈ s.1, 0 ≤ (followT e.patch t).line ∧ (followT e.patch t).line ≤ 120 ∧ ((followT e.patch t).outdated = false → (followT e.patch t).line < (rawFrom 0 e.patch s.2).length) := by
      intro t ht
      cases ho : (followT e.patch t).outdated with
      | true => rw [followT_line ho]; exact ⟨h.lo t ht, h.hi t ht, fun h => by cases h⟩
      | false =>
        obtain ⟨c1, c2, c3⟩ := followT_cur ho
        obtain ⟨d1, d2, _⟩ := kept_line ha (h.lo t ht) (h.cur t ht c1) c2
        have := ha.len
        rw [c3]; exact ⟨d1, by omega, fun _ => d2⟩
    refine ⟨by simp; exact h.few, ha.len, fun t ht => ?_, fun t ht => ?_, fun t ht ho => ?_, fun t ht => ?_, fun t ht => ?_⟩ <;> obtain ⟨u, hu, rfl⟩ := List.mem_map.1 ht
    · exact (hb u hu).1
    · exact (hb u hu).2.1
    · exact (hb u hu).2.2 ho
    · rw [followT_comments]; exact h.clo u hu
    · rw [followT_comments]; have := h.chi u hu; omega
  rw [if_neg h3] at h0 ⊢
  cases ht : s.1[e.thread.toNat]? with
  | none => rw [ht] at h0; cases h0
  | some t =>
    rw [ht] at h0
    simp only at h0 ⊢
    have htm : t ∈ s.1 := List.mem_of_getElem? ht
    have key : ∀ t' : Thr, t'.line = t.line → t'.outdated = t.outdated → 0 ≤ t'.comments → t'.comments ≤ (k : Int) + 1 → RI (s.1.set e.thread.toNat t', s.2) (k + 1) := by
      intro t' e1 e2 e3 e4
      refine ⟨by simp; exact h.few, h.len, fun u hu => ?_, fun u hu => ?_, fun u hu ho => ?_, fun u hu => ?_, fun u hu => ?_⟩ <;> rcases List.mem_or_eq_of_mem_set hu with hu | rfl
      · exact h.lo u hu
      · rw [e1]; exact h.lo t htm
      · exact h.hi u hu
      · rw [e1]; exact h.hi t htm
      · exact h.cur u hu ho
      · rw [e1]; exact h.cur t htm (by rw [← e2]; exact ho)
      · exact h.clo u hu
      · exact e3
      · have := h.chi u hu; omega
      · show _ ≤ ((k + 1 : Nat) : Int); omega
    have c1 := h.clo t htm
    have c2 := h.chi t htm
    by_cases h5 : e.thread < 0
    · rw [if_pos h5] at h0; cases h0
    rw [if_neg h5] at h0 ⊢
    by_cases h6 : e.kind = 2
    · rw [if_pos h6]; exact key _ rfl rfl (by show 0 ≤ t.comments + 1; omega) (by show t.comments + 1 ≤ _; omega)
    rw [if_neg h6] at h0 ⊢
    by_cases h7 : t.resolved = true
    · rw [if_pos h7] at h0; cases h0
    rw [if_neg h7] at h0 ⊢
    by_cases h8 : t.user ≠ e.user
    · rw [if_pos h8] at h0; cases h0
    rw [if_neg h8]; exact key _ rfl rfl c1 (by show t.comments ≤ _; omega)
theorem RI.start (text : List ByteArray) (h : text.length ≤ 120) : RI ([], text) 0 := ⟨by simp, h, by simp, by simp, by simp, by simp, by simp⟩
/-- where a thread lies -/
def thrP (A : Option Addr) (len : Nat) (n : Int) : Option Addr := if 0 ≤ n ∧ n < len then A.map (·.add (n.toNat * 5)) else none
/-- the first k threads moved -/
def flK (p : List Hunk) (l : List Thr) (k : Nat) : List Thr := (l.take k).map (followT p) ++ l.drop k
theorem flK_len (p : List Hunk) (l : List Thr) {k : Nat} (h : k ≤ l.length) : (flK p l k).length = l.length := by
  simp only [flK, List.length_append, List.length_map, List.length_take, List.length_drop]; omega
theorem flK_at {p : List Hunk} {l : List Thr} {k : Nat} (h : k < l.length) : (flK p l k)[k]? = some l[k] := by
  rw [flK, List.getElem?_append_right (by simp; omega)]
  simp only [List.length_map, List.length_take]
  rw [show k - min k l.length = 0 by omega, List.getElem?_drop, Nat.add_zero, List.getElem?_eq_getElem h]
theorem flK_set {p : List Hunk} {l : List Thr} {k : Nat} (h : k < l.length) {t : Thr} (ht : t = followT p l[k]) : (flK p l k).set k t = flK p l (k + 1) := by
  subst ht
  rw [flK, flK, List.take_succ_eq_append_getElem h, List.drop_eq_getElem_cons h, List.set_append_right _ _ (by simp; omega)]
  simp only [List.length_map, List.length_take, List.map_append]
  rw [show k - min k l.length = 0 by omega, List.set_cons_zero, List.append_assoc]; rfl
theorem flK_same {p : List Hunk} {l : List Thr} {k : Nat} (h : k < l.length) (ht : followT p l[k] = l[k]) : flK p l k = flK p l (k + 1) := by
  have := flK_set (p := p) h (t := l[k]) ht.symm
  rw [← this]
  apply List.ext_getElem?
  intro j
  rw [List.getElem?_set]
  by_cases hj : k = j
  · subst hj
    rw [if_pos rfl, if_pos (by rw [flK_len p l (by omega)]; exact h), flK_at h]
  · rw [if_neg hj]
theorem flK_all (p : List Hunk) (l : List Thr) {k : Nat} (h : l.length ≤ k) : flK p l k = l.map (followT p) := by
  rw [flK, List.take_of_length_le h, List.drop_eq_nil_of_le h, List.append_nil]
theorem linesF_one (s : ByteArray) : (linesF [s]).code = lineCode s := by
  rw [linesF, if_neg (by simp)]
  by_cases h : lineCode s = 0
  · rw [scan_ok (fun j hj => by have : j = 0 := by simpa using hj
                                subst this; exact h), h]
  · rw [scan_at (k := 0) (by simp) (fun j _ hj => absurd hj (by omega)) h]; rfl
theorem thrP_none {A : Option Addr} {len : Nat} {n : Int} (hs : 0 < len → ∃ ad, A = some ad) (h : (thrP A len n).isNone = true) : ¬ (0 ≤ n ∧ n < len) := fun hr => by
  obtain ⟨ad, rfl⟩ := hs (by omega)
  rw [thrP, if_pos hr] at h; cases h
theorem thrP_some {A : Option Addr} {len : Nat} {n : Int} (h : (thrP A len n).isNone = false) : 0 ≤ n ∧ n < len := by
  apply Classical.byContradiction
  intro hr
  rw [thrP, if_neg hr] at h; cases h
theorem stepE_miss {s : St} {e : Ev} (h0 : formC e = 0) (h1 : e.kind ≠ 1) (h4 : e.kind ≠ 4) (hn : ¬ (0 ≤ e.thread ∧ e.thread < s.1.length)) : stepE s e = (6, s) := by
  rw [stepE, if_neg (by simp [h0]), if_neg h1, if_neg h4]
  cases ht : s.1[e.thread.toNat]? with
  | none => rfl
  | some t =>
    have := (List.getElem?_eq_some_iff.1 ht).1
    simp only
    rw [if_pos (by omega)]
theorem stepE_hit {s : St} {e : Ev} {t : Thr} (h0 : formC e = 0) (h1 : e.kind ≠ 1) (h4 : e.kind ≠ 4) (hn : 0 ≤ e.thread) (ht : s.1[e.thread.toNat]? = some t) : stepE s e =
    if e.kind = 2 then (0, (s.1.set e.thread.toNat { t with comments := t.comments + 1, resolved := false }, s.2)) else
    if t.resolved = true then (11, s) else
    if t.user ≠ e.user then (13, s) else (0, (s.1.set e.thread.toNat { t with resolved := true }, s.2)) := by
  rw [stepE, if_neg (by simp [h0]), if_neg h1, if_neg h4, ht]
  simp only
  rw [if_neg (by omega)]
theorem stepE_patch {s : St} {e : Ev} (h0 : formC e = 0) (h4 : e.kind = 4) : stepE s e = patchT s e.patch := by
  rw [stepE, if_neg (by simp [h0]), if_neg (by omega), if_pos h4]
theorem stepE_open {s : St} {e : Ev} (h0 : formC e = 0) (h1 : e.kind = 1) : stepE s e = if e.line < 0 ∨ (s.2.length : Int) ≤ e.line then (3, s) else if 12 ≤ s.1.length then (14, s) else (0, (s.1 ++ [⟨e.user, e.line, 1, false, false⟩], s.2)) := by
  rw [stepE, if_neg (by simp [h0]), if_pos h1]
theorem stepE_text {s : St} {e : Ev} (h0 : formC e = 0) (h4 : e.kind ≠ 4) : (stepE s e).2.2 = s.2 := by
  rw [stepE, if_neg (by simp [h0])]
  by_cases h1 : e.kind = 1
  · rw [if_pos h1]; split; rfl; split <;> rfl
  · rw [if_neg h1, if_neg h4]
    cases s.1[e.thread.toNat]? with
    | none => rfl
    | some t => simp only; split; rfl; split; rfl; split; rfl; split <;> rfl
end Go.Cf
