/- Own frame, plain models and walks, part 3 (texts of this claim put together). -/
import Derived.Test.YtijpaljdclhehaaDoorP24b
namespace Go.Cf
open Go.RowKit
structure Rule where
  pat : ByteArray
  users : List Int
  deriving DecidableEq
structure RuleC where
  pl : Rule
  A : Option Addr
  c : Nat
abbrev ruleCells (a : RuleC) : List Value := [.string a.pl.pat, .slice a.A a.pl.users.length a.c]
abbrev ruleV (a : RuleC) : Value := .agg #[.string a.pl.pat, .slice a.A a.pl.users.length a.c]
theorem wide_rule : Wide ruleCells 2 := fun _ => ⟨rfl, by simp [ruleCells, Value.oneCell']⟩
structure RuleR (w : World) (lo : Nat) (a : RuleC) : Prop where
  rd : Rdl w lo 1 intCells a.A a.pl.users
  sb : SB a.A a.pl.users.length a.c 8
structure RulesR (w : World) (lo : Nat) (A : Option Addr) (c : Nat) (rs : List RuleC) : Prop where
  rd : Rdl w lo 2 ruleCells A rs
  each : ∀ a ∈ rs, RuleR w lo a
  sb : SB A rs.length c 40
theorem RuleR.lasts {lo : Nat} {a : RuleC} : Lasts lo (fun w => RuleR w lo a) := fun _ _ h hk => ⟨h.rd.keep hk, h.sb⟩
theorem RuleR.mono {w : World} {lo lo' : Nat} {a : RuleC} (h : RuleR w lo a) (hl : lo' ≤ lo) : RuleR w lo' a := ⟨h.rd.mono hl, h.sb⟩
theorem RulesR.lasts {lo : Nat} {A : Option Addr} {c : Nat} {rs : List RuleC} : Lasts lo (fun w => RulesR w lo A c rs) := fun w w' h hk => ⟨h.rd.keep hk, fun a ha => RuleR.lasts w w' (h.each a ha) hk, h.sb⟩
theorem RulesR.mono {w : World} {lo lo' : Nat} {A : Option Addr} {c : Nat} {rs : List RuleC} (h : RulesR w lo A c rs) (hl : lo' ≤ lo) : RulesR w lo' A c rs := ⟨h.rd.mono hl, fun a ha => (h.each a ha).mono hl, h.sb⟩
abbrev rls (rs : List RuleC) : List Rule := rs.map RuleC.pl
def uCode (last : Int) : List Int → Int
  | [] => 0
  | u :: l => if u < 0 ∨ 7 < u then 3 else if u ≤ last then 5 else uCode u l
def prevU (us : List Int) (k : Nat) : Int := if k = 0 then -1 else us[k - 1]?.getD 0
def ruleCode (r : Rule) : Int := if patCode r.pat ≠ 0 then patCode r.pat else if 4 < r.users.length then 2 else uCode (-1) r.users
def rulesF (l : List Rule) : Fault := if 20 < l.length then ⟨2, -1⟩ else scan (fun _ r => ruleCode r) l
section
variable {us : List Int} {k : Nat} {p : Int}
theorem prevU_pos (h : 0 < k) (hk : k - 1 < us.length) : prevU us k = us[k - 1] := by rw [prevU, if_neg (by omega), List.getElem?_eq_getElem hk]; rfl
theorem prevU_succ (hk : k < us.length) : prevU us (k + 1) = us[k] := by
  rw [prevU_pos (by omega) (by simpa using hk)]; simp
theorem uCode_bad (hk : k < us.length) (h : us[k] < 0 ∨ 7 < us[k]) : uCode p (us.drop k) = 3 := by
  rw [List.drop_eq_getElem_cons hk, uCode, if_pos h]
theorem uCode_old (hk : k < us.length) (h : ¬ (us[k] < 0 ∨ 7 < us[k])) (h2 : us[k] ≤ p) : uCode p (us.drop k) = 5 := by
  rw [List.drop_eq_getElem_cons hk, uCode, if_neg h, if_pos h2]
theorem uCode_next (hk : k < us.length) (h : ¬ (us[k] < 0 ∨ 7 < us[k])) (h2 : ¬ us[k] ≤ p) : uCode p (us.drop k) = uCode (prevU us (k + 1)) (us.drop (k + 1)) := by
  rw [List.drop_eq_getElem_cons hk, uCode, if_neg h, if_neg h2, prevU_succ hk]
theorem uCode_end (hk : ¬ k < us.length) : uCode p (us.drop k) = 0 := by
  rw [List.drop_of_length_le (by omega)]; rfl
end
theorem patFault_code (s : ByteArray) : (patFault s).code = (patCode s : Int) := by
  unfold patFault; split
  · rename_i h; simp [h]
  · rfl
theorem rulesF_len {l : List Rule} (h : rulesF l = ⟨0, 0⟩) : l.length ≤ 20 := by
  unfold rulesF at h
  by_cases h1 : 20 < l.length
  · rw [if_pos h1] at h; cases h
  · omega
theorem rulesF_each {l : List Rule} (h : rulesF l = ⟨0, 0⟩) : ∀ r ∈ l, ruleCode r = 0 := by
  have h1 := rulesF_len h
  rw [rulesF, if_neg (by omega)] at h
  intro r hr
  obtain ⟨j, hj, rfl⟩ := List.getElem_of_mem hr
  exact scan_zero.1 h j hj
theorem rulesF_code {l : List Rule} (h : (rulesF l).code = 0) : rulesF l = ⟨0, 0⟩ := by
  unfold rulesF at h ⊢
  split
  · rename_i h1; rw [if_pos h1] at h; cases h
  · rename_i h1; rw [if_neg h1] at h; exact scan_code_eq h
theorem ruleCode_zero {r : Rule} (h : ruleCode r = 0) : patFault r.pat = ⟨0, 0⟩ ∧ r.users.length ≤ 4 ∧ uCode (-1) r.users = 0 := by
  unfold ruleCode at h
  by_cases h1 : patCode r.pat = 0
  · rw [if_neg (by simpa using h1)] at h
    by_cases h2 : 4 < r.users.length
    · rw [if_pos h2] at h; cases h
    · rw [if_neg h2] at h
      exact ⟨by rw [patFault, if_pos h1], by omega, h⟩
  · rw [if_pos h1] at h; exact absurd h (by omega)
def matchR (path : ByteArray) (r : Rule) : Bool := wk (cutS r.pat) (cutS path)
def findU (rs : List Rule) (path : ByteArray) : List Int := ((rs.reverse.find? (matchR path)).map Rule.users).getD []
abbrev noRule : RuleC := ⟨⟨⟨#[]⟩, []⟩, none, 0⟩
def backL (rs : List RuleC) : List (Int × RuleC) := (List.range rs.length).map fun (k : Nat) => ((rs.length : Int) - 1 - k, rs[rs.length - 1 - k]?.getD noRule)
theorem backL_len (rs : List RuleC) : (backL rs).length = rs.length := by simp [backL]
theorem backL_at {rs : List RuleC} {k : Nat} (h : k < rs.length) : (backL rs)[k]? = some ((rs.length : Int) - 1 - k, rs[rs.length - 1 - k]) := by
  simp only [backL, List.getElem?_map, List.getElem?_range h, Option.map_some, Option.some.injEq, Prod.mk.injEq, true_and]
  rw [List.getElem?_eq_getElem (by omega)]; rfl
theorem backL_inv {rs : List RuleC} {k : Nat} {x : Int × RuleC} (h : (backL rs)[k]? = some x) : k < rs.length ∧ ∃ h2 : rs.length - 1 - k < rs.length, x.2 = rs[rs.length - 1 - k] := by
  have hk : k < rs.length := by
    have := (List.getElem?_eq_some_iff.1 h).1
    rwa [backL_len] at this
  rw [backL_at hk] at h
  injection h with h
  exact ⟨hk, by omega, by rw [← h]⟩
theorem find_rev {rs : List Rule} {p : Rule → Bool} {k : Nat} (hk : k < rs.length) (hp : p rs[k] = true) (hn : ∀ j (h : j < rs.length), k < j → p rs[j] = false) : rs.reverse.find? p = some rs[k] := by
  have e : rs = rs.take k ++ rs[k] :: rs.drop (k + 1) := by rw [← List.drop_eq_getElem_cons hk, List.take_append_drop]
  have h1 : (rs.drop (k + 1)).reverse.find? p = none := by
    rw [List.find?_eq_none]
    intro x hx
    obtain ⟨j, hj, rfl⟩ := List.getElem_of_mem (List.mem_reverse.1 hx)
    rw [List.getElem_drop]
    simp only [List.length_drop] at hj
    simp [hn (k + 1 + j) (by omega) (by omega)]
  have h2 : rs.reverse = (rs.drop (k + 1)).reverse ++ rs[k] :: (rs.take k).reverse := by
    rw [congrArg List.reverse e]; simp
  rw [h2, List.find?_append, h1, Option.none_or, List.find?_cons, hp]
theorem find_none {rs : List Rule} {p : Rule → Bool} (hn : ∀ j (h : j < rs.length), p rs[j] = false) : rs.reverse.find? p = none := by
  rw [List.find?_eq_none]
  intro x hx
  obtain ⟨j, hj, rfl⟩ := List.getElem_of_mem (List.mem_reverse.1 hx)
  simp [hn j hj]
theorem findU_hit {rs : List RuleC} {path : ByteArray} {k : Nat} (hk : k < rs.length) (hp : matchR path rs[k].pl = true) (hn : ∀ j (h : j < rs.length), k < j → matchR path rs[j].pl = false) : findU (rls rs) path = rs[k].pl.users := by
  have hk' : k < (rls rs).length := by simpa using hk
  rw [findU, find_rev hk' (by simpa using hp) (fun j h1 h2 => by simpa using hn j (by simpa using h1) h2)]
  simp
theorem findU_none {rs : List RuleC} {path : ByteArray} (hn : ∀ j (h : j < rs.length), matchR path rs[j].pl = false) : findU (rls rs) path = [] := by
  rw [findU, find_none (fun j h1 => by simpa using hn j (by simpa using h1))]; rfl
def ofV (rs : List Rule) (path : ByteArray) : List Int := if rulesF rs = ⟨0, 0⟩ ∧ pathOk path = true then findU rs path else []
def ofF (rs : List Rule) (path : ByteArray) : Fault := if rulesF rs ≠ ⟨0, 0⟩ then rulesF rs else if pathOk path then ⟨0, 0⟩ else ⟨12, -2⟩
end Go.Cf
namespace Go.Cf
open Go.RowKit
def digitW (w : ByteArray) : Option Int := if w.size = 1 ∧ 48 ≤ byteAt w 0 ∧ byteAt w 0 ≤ 57 then some ((byteAt w 0 : Int) - 48) else none
def readU : List ByteArray → List Int × Bool
  | [] => ([], true)
  | w :: l => match digitW w with
    | none => ([], false)
    | some d => (d :: (readU l).1, (readU l).2)
theorem digit_no {w : ByteArray} (h : ¬ (w.size = 1 ∧ 48 ≤ byteAt w 0 ∧ byteAt w 0 ≤ 57)) : digitW w = none := by rw [digitW, if_neg h]
theorem digit_yes {w : ByteArray} (h : w.size = 1 ∧ 48 ≤ byteAt w 0 ∧ byteAt w 0 ≤ 57) : digitW w = some ((byteAt w 0 : Int) - 48) := by rw [digitW, if_pos h]
structure ReadTo (ws : List ByteArray) (k : Nat) (us : List Int) : Prop where
  all : (readU ws).1 = us ++ (readU (ws.drop k)).1
  ok : (readU ws).2 = (readU (ws.drop k)).2
  len : us.length = k
theorem ReadTo.zero (ws : List ByteArray) : ReadTo ws 0 [] := ⟨rfl, rfl, rfl⟩
theorem ReadTo.next {ws : List ByteArray} {k : Nat} {us : List Int} {d : Int} (h : ReadTo ws k us) (hk : k < ws.length) (hd : digitW ws[k] = some d) : ReadTo ws (k + 1) (us ++ [d]) := by
  have e : readU (ws.drop k) = (d :: (readU (ws.drop (k + 1))).1, (readU (ws.drop (k + 1))).2) := by
    rw [List.drop_eq_getElem_cons hk, readU, hd]
  refine ⟨?_, ?_, by simp [h.len]⟩
  · rw [h.all, e]; simp
  · rw [h.ok, e]
theorem ReadTo.stop {ws : List ByteArray} {k : Nat} {us : List Int} (h : ReadTo ws k us) (hk : k < ws.length) (hd : digitW ws[k] = none) : readU ws = (us, false) := by
  have e : readU (ws.drop k) = ([], false) := by rw [List.drop_eq_getElem_cons hk, readU, hd]
  rw [show readU ws = ((readU ws).1, (readU ws).2) from rfl, h.all, h.ok, e]; simp
theorem ReadTo.done {ws : List ByteArray} {k : Nat} {us : List Int} (h : ReadTo ws k us) (hk : ¬ k < ws.length) : readU ws = (us, true) := by
  have e : readU (ws.drop k) = ([], true) := by rw [List.drop_of_length_le (by omega)]; rfl
  rw [show readU ws = ((readU ws).1, (readU ws).2) from rfl, h.all, h.ok, e]; simp
def headW (ws : List ByteArray) : ByteArray := ws[0]?.getD ⟨#[]⟩
def lineR (line : ByteArray) : Rule := ⟨headW (cutB line), (readU ((cutB line).drop 1)).1⟩
def lineC (line : ByteArray) : Int := if (readU ((cutB line).drop 1)).2 = true then ruleCode (lineR line) else 1
theorem cutB_pos (s : ByteArray) : 0 < (cutB s).length := by
  rw [cutB, List.length_map]
  exact List.length_pos_iff.2 (splitB_ne _)
theorem headW_eq (s : ByteArray) : headW (cutB s) = (cutB s)[0]'(cutB_pos s) := by rw [headW, List.getElem?_eq_getElem (cutB_pos s)]; rfl
def skipL (s : ByteArray) : Bool := strEq s ⟨#[]⟩ || decide (byteAt s 0 = 35)
def readL : List ByteArray → List Rule
  | [] => []
  | s :: l => if skipL s = true then readL l else lineR s :: readL l
def badL (s : ByteArray) : Int := if skipL s = true then 0 else lineC s
def fileF (text : List ByteArray) : Fault := if linesF text ≠ ⟨0, 0⟩ then linesF text else if scan (fun _ s => badL s) text ≠ ⟨0, 0⟩ then scan (fun _ s => badL s) text else if 20 < (readL text).length then ⟨2, -1⟩ else ⟨0, 0⟩
def fileV (text : List ByteArray) : List Rule := if fileF text = ⟨0, 0⟩ then readL text else []
theorem readL_take {text : List ByteArray} {k : Nat} (hk : k < text.length) : readL (text.take (k + 1)) = readL (text.take k) ++ (if skipL text[k] = true then [] else [lineR text[k]]) := by
  have key : ∀ (a b : List ByteArray), readL (a ++ b) = readL a ++ readL b := by
    intro a b
    induction a with
    | nil => rfl
    | cons s a ih => simp only [List.cons_append, readL]; split <;> simp [ih]
  rw [List.take_succ_eq_append_getElem hk, key]
  congr 1
theorem readL_len (l : List ByteArray) : (readL l).length ≤ l.length := by
  induction l with
  | nil => exact Nat.le_refl _
  | cons s l ih => simp only [readL]; split <;> simp <;> omega
end Go.Cf
namespace Go.Cf
open Go.RowKit
theorem drop1_at {α : Type} {l : List α} {k : Nat} (h : k + 1 < l.length) : (l.drop 1)[k]'(by rw [List.length_drop]; omega) = l[k + 1] := by
  rw [List.getElem_drop]; simp only [Nat.add_comm]
theorem str_pos {s : ByteArray} (h : strEq s ⟨#[]⟩ = false) : 0 < s.size := by
  rcases Nat.eq_zero_or_pos s.size with h0 | h0
  · have e : s = ⟨#[]⟩ := ba_ext (by rw [h0]; rfl) (fun i hi => by omega)
    exact absurd e (strEq_no.1 h)
  · exact h0
theorem line_size {l : List ByteArray} (h : linesF l = ⟨0, 0⟩) : l.length ≤ 120 ∧ ∀ j (hj : j < l.length), lineCode l[j] = 0 ∧ l[j].size ≤ 80 := by
  unfold linesF at h
  by_cases h1 : 120 < l.length
  · rw [if_pos h1] at h; cases h
  · rw [if_neg h1] at h
    refine ⟨by omega, fun j hj => ?_⟩
    have h2 : lineCode l[j] = 0 := scan_zero.1 h j hj
    refine ⟨h2, ?_⟩
    unfold lineCode at h2
    by_cases h3 : 80 < l[j].size
    · rw [if_pos h3] at h2; cases h2
    · omega
theorem ruleR_row {w : World} {base n c : Nat} {e : TypeId} {A : Option Addr} {pat : ByteArray} {us : List Int} (h : (rowl intCells base e 1 (.slice A n c) us).ok w) (hb : us.length * 8 ≤ reachBytes) : RuleR w base ⟨⟨pat, us⟩, A, c⟩ := by
  obtain ⟨A', c', he, h1, h2, h3⟩ := row_form h
  simp only [Value.slice.injEq] at he
  obtain ⟨rfl, -, rfl⟩ := he
  exact ⟨row_rdl (fun _ => rfl) h, ⟨h1, h2, h3, hb⟩⟩
end Go.Cf
namespace Go.Cf
theorem readU_len : ∀ l : List ByteArray, (readU l).1.length ≤ l.length
  | [] => Nat.le_refl _
  | w :: l => by
    have ih := readU_len l
    rw [readU]
    split
    · simp
    · simp; omega
theorem lineR_len (s : ByteArray) : (lineR s).users.length ≤ s.size + 1 := by
  have h1 := readU_len ((cutB s).drop 1)
  have h2 := cutB_len s
  have h3 : (lineR s).users = (readU ((cutB s).drop 1)).1 := rfl
  rw [h3]
  rw [List.length_drop] at h1
  omega
end Go.Cf
namespace Go.Cf
abbrev exT : List ByteArray := [⟨#[35, 32, 97, 108, 108]⟩, ⟨#[42, 42, 32, 48]⟩, ⟨#[42, 46, 103, 111, 32, 49, 32, 51]⟩]
abbrev exPa : ByteArray := ⟨#[97, 46, 103, 111]⟩
theorem oex1 : fileF exT = ⟨0, 0⟩ := by decide +kernel
theorem oex2 : fileV exT = [⟨⟨#[42, 42]⟩, [0]⟩, ⟨⟨#[42, 46, 103, 111]⟩, [1, 3]⟩] := by decide +kernel
theorem oex3 : ofF (fileV exT) exPa = ⟨0, 0⟩ := by decide +kernel
theorem oex4 : ofV (fileV exT) exPa = [1, 3] := by decide +kernel
end Go.Cf
namespace Go.Cf
open Go.RowKit
theorem y_indexByte {P : Program} {w0 : World} {T : List Reg} {ρ : Env} {dst : Option Nat} {x y : Operand} {ty : TypeId} {pos : String} {af : Array Edge} {gd : Option (Nat × Bool)} {ts : Array TypeId} {f : FuncId} {fn : Func}
    (hf : P.funcs[f]? = some fn) (hname : (fn.name == "runtime.NumGoroutine") = false) (hb : fn.body.isNone = true) (hn : Extern.findNext fn = none) (he : Extern.find fn = some Extern.BytealgIndexByte.indexByte) {s : ByteArray} {c : Int}
    (hx : ev ρ x = .string s) (hy : ev ρ y = .int .u8 c) :
    Yield P w0 T ρ ⟨dst, .call { callee := .value (.func f), args := #[x, y], argTypes := ts }, ty, pos, af, gd⟩ (.int .i64 (firstIdx s c.toNat.toUInt8)) := fun w _ => by
  have h := run_callFunc_extern hf hname hb hn he #[.string s, .int .u8 c] w
  rw [run_indexByte_string] at h
  simp only [Result.andThen] at h
  have hef : ev ρ (.func f) = .func (.func f) #[] #[] := rfl
  simp [execOp, resolve, invoke, hx, hy, hef, Deferred.ofValue]
  simpa using h
end Go.Cf
namespace Go.Proofs.YtijpaljdclhehaaDoor
open Go.RowKit Go.Cf
set_option maxRecDepth 10000
set_option maxHeartbeats 1000000 in
theorem sCount_anyB (w : World) (s : ByteArray) : Calls Tryd.prog 89 #[.string s, .string ⟨#[32]⟩] w fun e w' => e = .returned (.int .i64 (blanks s : Nat)) ∧ Below w.heap.size w w' := by
  refine gcalls Tryd.func89 rfl Tryd.ntmps89 (Nat.le_of_ble_eq_true rfl) ?_
  refine gfrom [(0, .string _), (1, .string _)] ⟨rfl, rfl, trivial⟩ fun σ => ?_
  refine gseq fun N1 hN1 => ?_
  refine greg ?_
  refine gop (y_assign (v := .int _ _) rfl) rfl rfl rfl ?_
  refine gops_nil ?_
  refine hN1 _ _ ?_
  refine gfrom [(0, .string _), (1, .string _)] ⟨rfl, rfl, trivial⟩ fun σ => ?_
  refine gseq fun N2 hN2 => ?_
  refine gseq fun N3 hN3 => ?_
  refine greg ?_
  refine gop (y_move (v := .string _) rfl) rfl rfl rfl ?_
  refine gop (y_lens Tryd.underlying9 rfl) rfl rfl rfl ?_
  refine gop (y_eql rfl rfl) rfl rfl rfl ?_
  refine gops_nil ?_
  refine hN3 _ _ ?_
  refine gfrom [(0, .string _), (1, .string _), (9, .bool _)] ⟨rfl, rfl, rfl, trivial⟩ fun σ => ?_
  refine gcond (b := _) rfl (fun hc9 => ?_) (fun hc9 => ?_)
  · 
     exact absurd hc9 (by decide)
  · 
    replace hc9 := of_decide_eq_false hc9
    refine gskip ?_
    refine hN2 _ _ ?_
    refine gfrom [(0, .string _), (1, .string _)] ⟨rfl, rfl, trivial⟩ fun σ => ?_
    refine gseq fun N4 hN4 => ?_
    refine gseq fun N5 hN5 => ?_
    refine greg ?_
    refine gop (y_move (v := .string _) rfl) rfl rfl rfl ?_
    refine gop (y_lens Tryd.underlying9 rfl) rfl rfl rfl ?_
    refine gop (y_eql rfl rfl) rfl rfl rfl ?_
    refine gops_nil ?_
    refine hN5 _ _ ?_
    refine gfrom [(0, .string _), (1, .string _), (15, .bool _)] ⟨rfl, rfl, rfl, trivial⟩ fun σ => ?_
    refine gcond (b := _) rfl (fun hc15 => ?_) (fun hc15 => ?_)
    · 
      replace hc15 := of_decide_eq_true hc15
      refine gseq fun N6 hN6 => ?_
      refine greg ?_
      refine gop (y_move (v := .string _) rfl) rfl rfl rfl ?_
      refine gop (y_move (v := .string _) rfl) rfl rfl rfl ?_
      refine gop (y_stridx (m := 0) Tryd.underlying9 rfl rfl (by omega) (by omega) (by omega)) rfl rfl rfl ?_
      refine gop (y_extern (vs := [.string _, .int _ _]) Tryd.func107 (by kernel_rfl) (by kernel_rfl) (by kernel_rfl) (e := Extern.BytealgCount.count) (by kernel_rfl) rfl (fun w => Lib.run_countString _ _ w)) rfl rfl rfl ?_
      refine gop (y_assign (v := .int _ _) rfl) rfl rfl rfl ?_
      refine gops_nil ?_
      refine hN6 _ _ ?_
      refine gfrom [(4, .int _ _)] ⟨rfl, trivial⟩ fun σ => ?_
      refine gret fun w1 hM => ?_
      refine ⟨_, res1 rfl (rt (v := .int _ _) rfl), ?_⟩
      exact ⟨rfl, hM.low⟩
    · 
       exact absurd hc15 (by decide)
set_option maxHeartbeats 1000000 in
theorem slIndex_anyB (w : World) (s : ByteArray) : Calls Tryd.prog 108 #[.string s, .string ⟨#[32]⟩] w fun e w' => e = .returned (.int .i64 (Lib.indexByte s.data.toList 32)) ∧ Below w.heap.size w w' := by
  refine gcalls Tryd.func108 rfl Tryd.ntmps108 (Nat.le_of_ble_eq_true rfl) ?_
  refine gfrom [(0, .string _), (1, .string _)] ⟨rfl, rfl, trivial⟩ fun σ => ?_
  refine gseq fun N1 hN1 => ?_
  refine greg ?_
  refine gop (y_assign (v := .int _ _) rfl) rfl rfl rfl ?_
  refine gops_nil ?_
  refine hN1 _ _ ?_
  refine gfrom [(0, .string _), (1, .string _)] ⟨rfl, rfl, trivial⟩ fun σ => ?_
  refine gseq fun N2 hN2 => ?_
  refine greg ?_
  refine gop (y_move (v := .string _) rfl) rfl rfl rfl ?_
  refine gop (y_lens Tryd.underlying9 rfl) rfl rfl rfl ?_
  refine gop (y_assign (v := .int _ _) rfl) rfl rfl rfl ?_
  refine gops_nil ?_
  refine hN2 _ _ ?_
  refine gfrom [(0, .string _), (1, .string _), (5, .int _ _)] ⟨rfl, rfl, rfl, trivial⟩ fun σ => ?_
  refine gseq fun N3 hN3 => ?_
  refine gblock ?_
  refine gseq fun N4 hN4 => ?_
  refine greg ?_
  refine gop (y_move (v := .int _ _) rfl) rfl rfl rfl ?_
  refine gop (y_eql rfl rfl) rfl rfl rfl ?_
  refine gop (y_move (v := .bool _) rfl) rfl rfl rfl ?_
  refine gop_if (want := false) rfl rfl rfl rfl rfl rfl (fun hg19 => ?_) (fun hg19 => ?_)
  · 
    have hg19d := of_decide_eq_false hg19
    refine gop (y_bare (y_move (v := .string _) rfl)) rfl rfl rfl ?_
    refine gop_on rfl rfl rfl rfl hg19 ?_
    refine gop (y_bare (y_move (v := .string _) rfl)) rfl rfl rfl ?_
    refine gop_on rfl rfl rfl rfl hg19 ?_
    refine gop (y_bare (y_eqls rfl rfl)) rfl rfl rfl ?_
    refine gop (y_pick_f (v := .bool _) rfl hg19 rfl) rfl rfl rfl ?_
    refine gop (y_assign (v := .bool _) rfl) rfl rfl rfl ?_
    refine gops_nil ?_
    refine hN4 _ _ ?_
    refine gfrom [(0, .string _), (1, .string _), (5, .int _ _), (16, .bool _)] ⟨rfl, rfl, rfl, rfl, trivial⟩ fun σ => ?_
    refine gcond (b := _) rfl (fun hc16 => ?_) (fun hc16 => ?_)
    · 
      refine gseq fun N5 hN5 => ?_
      refine greg ?_
      refine gop (y_assign (v := .int _ _) rfl) rfl rfl rfl ?_
      refine gops_nil ?_
      refine hN5 _ _ ?_
      refine gfrom [(4, .int _ _)] ⟨rfl, trivial⟩ fun σ => ?_
      refine gret fun w1 hM => ?_
      refine ⟨_, res1 rfl (rt (v := .int _ _) rfl), ?_⟩
      exact ⟨by rw [← ByteArray.toList_eq, ← show _ = s.toList by simpa using hc16]; rfl, hM.low⟩
    · 
      refine gseq fun N6 hN6 => ?_
      refine greg ?_
      refine gop (y_move (v := .int _ _) rfl) rfl rfl rfl ?_
      refine gop (y_eql rfl rfl) rfl rfl rfl ?_
      refine gop (y_assign (v := .bool _) rfl) rfl rfl rfl ?_
      refine gops_nil ?_
      refine hN6 _ _ ?_
      refine gfrom [(0, .string _), (1, .string _), (5, .int _ _), (24, .bool _)] ⟨rfl, rfl, rfl, rfl, trivial⟩ fun σ => ?_
      refine gcond (b := _) rfl (fun hc24 => ?_) (fun hc24 => ?_)
      · 
        replace hc24 := of_decide_eq_true hc24
        refine gseq fun N7 hN7 => ?_
        refine greg ?_
        refine gop (y_move (v := .string _) rfl) rfl rfl rfl ?_
        refine gop (y_move (v := .string _) rfl) rfl rfl rfl ?_
        refine gop (y_stridx (m := 0) Tryd.underlying9 rfl rfl (by omega) (by omega) (by omega)) rfl rfl rfl ?_
        refine gop_pure (e_call (vs := [.string _, .int _ _]) Tryd.func78 rfl (by kernel_rfl) rfl) (fun w hM => sIndexByte_any w _ _) rfl rfl rfl ?_
        refine gop (y_assign (v := .int _ _) rfl) rfl rfl rfl ?_
        refine gops_nil ?_
        refine hN7 _ _ ?_
        refine gfrom [(4, .int _ _)] ⟨rfl, trivial⟩ fun σ => ?_
        refine gret fun w1 hM => ?_
        refine ⟨_, res1 rfl (rt (v := .int _ _) rfl), ?_⟩
        exact ⟨rfl, hM.low⟩
      · 
         exact absurd hc24 (by decide)
  · 
     exact absurd hg19 (by decide)
set_option maxHeartbeats 1000000 in
theorem sIndex_anyB (w : World) (s : ByteArray) : Calls Tryd.prog 90 #[.string s, .string ⟨#[32]⟩] w fun e w' => e = .returned (.int .i64 (Lib.indexByte s.data.toList 32)) ∧ Below w.heap.size w w' := by
  refine gcalls Tryd.func90 rfl Tryd.ntmps90 (Nat.le_of_ble_eq_true rfl) ?_
  refine gfrom [(0, .string _), (1, .string _)] ⟨rfl, rfl, trivial⟩ fun σ => ?_
  refine gseq fun N1 hN1 => ?_
  refine greg ?_
  refine gop (y_assign (v := .int _ _) rfl) rfl rfl rfl ?_
  refine gops_nil ?_
  refine hN1 _ _ ?_
  refine gfrom [(0, .string _), (1, .string _)] ⟨rfl, rfl, trivial⟩ fun σ => ?_
  refine gseq fun N2 hN2 => ?_
  refine greg ?_
  refine gop (y_move (v := .string _) rfl) rfl rfl rfl ?_
  refine gop (y_move (v := .string _) rfl) rfl rfl rfl ?_
  refine gop_pure (e_call (vs := [.string _, .string _]) Tryd.func108 rfl (by kernel_rfl) rfl) (fun w hM => slIndex_anyB w _) rfl rfl rfl ?_
  refine gop (y_assign (v := .int _ _) rfl) rfl rfl rfl ?_
  refine gops_nil ?_
  refine hN2 _ _ ?_
  refine gfrom [(4, .int _ _)] ⟨rfl, trivial⟩ fun σ => ?_
  refine gret fun w1 hM => ?_
  refine ⟨_, res1 rfl (rt (v := .int _ _) rfl), ?_⟩
  exact ⟨rfl, hM.low⟩
set_option maxHeartbeats 2000000 in
theorem genSplit_anyB (w : World) (s : ByteArray) (hs : s.size ≤ 4000000) :
    Calls Tryd.prog 70 #[.string s, .string ⟨#[32]⟩, .int .i64 0, .int .i64 (-1)] w fun e w' => ∃ v T', e = .returned v ∧ T' = [rowl strCells w.heap.size 9 1 v (cutB s)] ∧ Mem w T' w' := by
  have hsl := blanks_le s
  have h47 : (⟨#[32]⟩ : ByteArray).size = 1 := rfl
  refine gcalls Tryd.func70 rfl Tryd.ntmps70 (Nat.le_of_ble_eq_true rfl) ?_
  refine gfrom [(0, .string _), (1, .string _), (2, .int _ _), (3, .int _ _)] ⟨rfl, rfl, rfl, rfl, trivial⟩ fun σ => ?_
  refine gseq fun N1 hN1 => ?_
  refine greg ?_
  refine gop (y_assign (v := .slice _ _ _) rfl) rfl rfl rfl ?_
  refine gops_nil ?_
  refine hN1 _ _ ?_
  refine gfrom [(0, .string _), (1, .string _), (2, .int _ _), (3, .int _ _)] ⟨rfl, rfl, rfl, rfl, trivial⟩ fun σ => ?_
  refine gseq fun N2 hN2 => ?_
  refine gseq fun N3 hN3 => ?_
  refine greg ?_
  refine gop (y_move (v := .int _ _) rfl) rfl rfl rfl ?_
  refine gop (y_eql rfl rfl) rfl rfl rfl ?_
  refine gops_nil ?_
  refine hN3 _ _ ?_
  refine gfrom [(0, .string _), (1, .string _), (2, .int _ _), (3, .int _ _), (13, .bool _)] ⟨rfl, rfl, rfl, rfl, rfl, trivial⟩ fun σ => ?_
  refine gcond (b := _) rfl (fun hc13 => ?_) (fun hc13 => ?_)
  · 
     exact absurd hc13 (by decide)
  · 
    replace hc13 := of_decide_eq_false hc13
    refine gskip ?_
    refine hN2 _ _ ?_
    refine gfrom [(0, .string _), (1, .string _), (2, .int _ _), (3, .int _ _)] ⟨rfl, rfl, rfl, rfl, trivial⟩ fun σ => ?_
    refine gseq fun N4 hN4 => ?_
    refine gseq fun N5 hN5 => ?_
    refine greg ?_
    refine gop (y_move (v := .string _) rfl) rfl rfl rfl ?_
    refine gop (y_eqls rfl rfl) rfl rfl rfl ?_
    refine gops_nil ?_
    refine hN5 _ _ ?_
    refine gfrom [(0, .string _), (1, .string _), (2, .int _ _), (3, .int _ _), (15, .bool _)] ⟨rfl, rfl, rfl, rfl, rfl, trivial⟩ fun σ => ?_
    refine gcond (b := _) rfl (fun hc15 => ?_) (fun hc15 => ?_)
    · 
       simp at hc15
    · 
      refine gskip ?_
      refine hN4 _ _ ?_
      refine gfrom [(0, .string _), (1, .string _), (2, .int _ _), (3, .int _ _)] ⟨rfl, rfl, rfl, rfl, trivial⟩ fun σ => ?_
      refine gseq fun N6 hN6 => ?_
      refine gseq fun N7 hN7 => ?_
      refine greg ?_
      refine gop (y_move (v := .int _ _) rfl) rfl rfl rfl ?_
      refine gop (y_lss rfl rfl) rfl rfl rfl ?_
      refine gops_nil ?_
      refine hN7 _ _ ?_
      refine gfrom [(0, .string _), (1, .string _), (2, .int _ _), (3, .int _ _), (20, .bool _)] ⟨rfl, rfl, rfl, rfl, rfl, trivial⟩ fun σ => ?_
      refine gcond (b := _) rfl (fun hc20 => ?_) (fun hc20 => ?_)
      · 
        replace hc20 := of_decide_eq_true hc20
        refine greg ?_
        refine gop (y_move (v := .string _) rfl) rfl rfl rfl ?_
        refine gop (y_move (v := .string _) rfl) rfl rfl rfl ?_
        refine gop_pure (e_call (vs := [.string _, .string _]) Tryd.func89 rfl (by kernel_rfl) rfl) (fun w hM => sCount_anyB w _) rfl rfl rfl ?_
        refine gop (y_add rfl rfl ⟨by omega, by omega⟩) rfl rfl rfl ?_
        refine gop (y_assign (v := .int _ _) rfl) rfl rfl rfl ?_
        refine gops_nil ?_
        refine hN6 _ _ ?_
        refine gfrom [(0, .string _), (1, .string _), (2, .int _ _), (3, .int _ _)] ⟨rfl, rfl, rfl, rfl, trivial⟩ fun σ => ?_
        refine gseq fun N8 hN8 => ?_
        refine greg ?_
        refine gop (y_move (v := .int _ _) rfl) rfl rfl rfl ?_
        refine gop (y_move (v := .string _) rfl) rfl rfl rfl ?_
        refine gop (y_lens Tryd.underlying9 rfl) rfl rfl rfl ?_
        refine gop (y_add rfl rfl ⟨by omega, by omega⟩) rfl rfl rfl ?_
        refine gop (y_min_l rfl rfl (show ((blanks s : Nat) : Int) + 1 ≤ (s.size : Int) + 1 by omega)) rfl rfl rfl ?_
        refine gop (y_assign (v := .int _ _) rfl) rfl rfl rfl ?_
        refine gops_nil ?_
        refine hN8 _ _ ?_
        refine gfrom [(0, .string _), (1, .string _), (2, .int _ _), (3, .int _ _)] ⟨rfl, rfl, rfl, rfl, trivial⟩ fun σ => ?_
        refine gseq fun N9 hN9 => ?_
        refine greg ?_
        refine gop (y_move (v := .int _ _) rfl) rfl rfl rfl ?_
        refine gop_make (f := strCells) (bytes := 16) (z := .string .empty) (ByteArray.empty) Tryd.underlying37 (by kernel_rfl) rfl rfl rfl (k := blanks s + 1) rfl rfl (by omega) (by simp [maxLen]; omega) rfl (fun b31 hb31 => ?_)
        refine gop (y_assign (v := .slice (some _) _ _) rfl) rfl rfl rfl ?_
        refine gops_nil ?_
        refine hN9 _ _ ?_
        refine gT [rowl _ _ _ _ _ _] rfl ?_
        refine gfrom [(0, .string _), (1, .string _), (2, .int _ _), (3, .int _ _), (9, .slice (some _) _ _)] ⟨rfl, rfl, rfl, rfl, rfl, trivial⟩ fun σ => ?_
        refine gseq fun N10 hN10 => ?_
        refine greg ?_
        refine gop (y_move (v := .int _ _) rfl) rfl rfl rfl ?_
        refine gop (y_sub rfl rfl ⟨by omega, by omega⟩) rfl rfl rfl ?_
        refine gop (y_assign (v := .int _ _) rfl) rfl rfl rfl ?_
        refine gops_nil ?_
        refine hN10 _ _ ?_
        refine gfrom [(0, .string _), (1, .string _), (2, .int _ _), (3, .int _ _), (9, .slice (some _) _ _)] ⟨rfl, rfl, rfl, rfl, rfl, trivial⟩ fun σ => ?_
        refine gseq fun N11 hN11 => ?_
        refine greg ?_
        refine gop (y_assign (v := .int _ _) rfl) rfl rfl rfl ?_
        refine gops_nil ?_
        refine hN11 _ _ ?_
        refine gfrom [(0, .string _), (1, .string _), (2, .int _ _), (3, .int _ _), (9, .slice (some _) _ _), (10, .int _ _)] ⟨rfl, rfl, rfl, rfl, rfl, rfl, trivial⟩ fun σ => ?_
        refine gseq fun N12 hN12 => ?_
        refine gblock ?_
        refine gfrom2 [(0, .string _), (10, .int _ _)] [(1, .string _), (2, .int _ _), (3, .int _ _), (9, .slice (some _) _ _)] ⟨rfl, rfl, trivial⟩ ⟨rfl, rfl, rfl, rfl, trivial⟩ fun σ => ?_
        refine gloop2 (G := Nat × ByteArray × List ByteArray) (fun (i, sc, pre) => i = pre.length ∧ pre ++ cutB sc = cutB s ∧ blanks sc + pre.length = blanks s ∧ sc.size ≤ s.size) (fun (i, sc, pre) => blanks s - pre.length) (fun (i, sc, pre) => [(0, .string sc), (10, .int .i64 (i : Int))]) (fun (i, sc, pre) => [(0, rowl strCells w.heap.size 9 1 (.slice (some ⟨b31, 0, none⟩) (blanks s + 1) (blanks s + 1)) (pre ++ List.replicate (blanks s + 1 - pre.length) ByteArray.empty))]) ((0, s, [])) ?h0 ⟨rfl, rfl, trivial⟩ ⟨rfl, rfl, rfl, rfl, trivial⟩ rfl ?round
        case h0 => exact ⟨rfl, rfl, rfl, Nat.le_refl _⟩
        case round =>
          rintro ⟨i, sc, pre⟩ hφ σ
          obtain ⟨hi, hp1, hp2, hp3⟩ := hφ
          refine gT [rowl _ _ _ _ _ _] rfl ?_
          refine gseq fun N13 hN13 => ?_
          refine gseq fun N14 hN14 => ?_
          refine greg ?_
          refine gop (y_move (v := .int _ _) rfl) rfl rfl rfl ?_
          refine gop (y_move (v := .int _ _) rfl) rfl rfl rfl ?_
          refine gop (y_lss rfl rfl) rfl rfl rfl ?_
          refine gops_nil ?_
          refine hN14 _ _ ?_
          refine gfrom [(0, .string _), (1, .string _), (2, .int _ _), (3, .int _ _), (9, .slice (some _) _ _), (10, .int _ _), (36, .bool _)] ⟨rfl, rfl, rfl, rfl, rfl, rfl, rfl, trivial⟩ fun σ => ?_
          refine gcond (b := _) rfl (fun hc36 => ?_) (fun hc36 => ?_)
          · 
            replace hc36 := of_decide_eq_true hc36
            obtain ⟨m, hm1, hm2, hm3, hm4⟩ := idx_hitB (s := sc) (by have h0 : ((i : Nat) : Int) < ((blanks s : Nat) : Int) + 1 - 1 := hc36; omega)
            refine gskip ?_
            refine hN13 _ _ ?_
            refine gfrom [(0, .string _), (1, .string _), (2, .int _ _), (3, .int _ _), (9, .slice (some _) _ _), (10, .int _ _)] ⟨rfl, rfl, rfl, rfl, rfl, rfl, trivial⟩ fun σ => ?_
            refine gblock ?_
            refine gseq fun N15 hN15 => ?_
            refine greg ?_
            refine gop (y_move (v := .string _) rfl) rfl rfl rfl ?_
            refine gop (y_move (v := .string _) rfl) rfl rfl rfl ?_
            refine gop_pure (e_call (vs := [.string _, .string _]) Tryd.func90 rfl (by kernel_rfl) rfl) (fun w hM => sIndex_anyB w _) rfl rfl rfl ?_
            refine gop (y_assign (v := .int _ _) rfl) rfl rfl rfl ?_
            refine gops_nil ?_
            refine hN15 _ _ ?_
            refine gfrom [(0, .string _), (1, .string _), (2, .int _ _), (3, .int _ _), (9, .slice (some _) _ _), (10, .int _ _), (11, .int _ _)] ⟨rfl, rfl, rfl, rfl, rfl, rfl, rfl, trivial⟩ fun σ => ?_
            refine gseq fun N16 hN16 => ?_
            refine gseq fun N17 hN17 => ?_
            refine greg ?_
            refine gop (y_move (v := .int _ _) rfl) rfl rfl rfl ?_
            refine gop (y_lss rfl rfl) rfl rfl rfl ?_
            refine gops_nil ?_
            refine hN17 _ _ ?_
            refine gfrom [(0, .string _), (1, .string _), (2, .int _ _), (3, .int _ _), (9, .slice (some _) _ _), (10, .int _ _), (11, .int _ _), (41, .bool _)] ⟨rfl, rfl, rfl, rfl, rfl, rfl, rfl, rfl, trivial⟩ fun σ => ?_
            refine gcond (b := _) rfl (fun hc41 => ?_) (fun hc41 => ?_)
            · 
               rw [hm1] at hc41; exact absurd hc41 (by simp)
            · 
              replace hc41 := of_decide_eq_false hc41
              refine gskip ?_
              refine hN16 _ _ ?_
              refine gfrom [(0, .string _), (1, .string _), (2, .int _ _), (3, .int _ _), (9, .slice (some _) _ _), (10, .int _ _), (11, .int _ _)] ⟨rfl, rfl, rfl, rfl, rfl, rfl, rfl, trivial⟩ fun σ => ?_
              refine gseq fun N18 hN18 => ?_
              refine greg ?_
              refine gop (y_move (v := .slice (some _) _ _) rfl) rfl rfl rfl ?_
              refine gop (y_move (v := .int _ _) rfl) rfl rfl rfl ?_
              refine gop (y_move (v := .string _) rfl) rfl rfl rfl ?_
              refine gop (y_move (v := .int _ _) rfl) rfl rfl rfl ?_
              refine gop (y_move (v := .int _ _) rfl) rfl rfl rfl ?_
              refine gop (y_add rfl rfl ⟨by omega, by omega⟩) rfl rfl rfl ?_
              refine gop (y_strslice_hi Tryd.underlying9 rfl rfl (by omega) (by omega)) rfl rfl rfl ?_
              refine gop (y_indexAddr (m := i) Tryd.underlying37 Tryd.sizeOf9 rfl rfl (by omega) (by omega) (by omega)) rfl rfl rfl ?_
              refine gop_store_row 0 (f := strCells) (l := pre ++ List.replicate (blanks s + 1 - pre.length) ByteArray.empty) (k := i) (o := 0) (v := .string _) (a := ByteArray.empty) (a' := sc.extract 0 m) (fun _ => rfl) rfl rfl rfl Tryd.sizeOf9 rfl rfl rfl rfl (by simp; omega) (by rw [hi, List.getElem?_append_right (Nat.le_refl _), Nat.sub_self, List.getElem?_replicate, if_pos (by omega)]) (Nat.le_of_ble_eq_true rfl) (by rw [hm1]; rfl) rfl ?_
              refine gops_nil ?_
              refine hN18 _ _ ?_
              refine gT [rowl _ _ _ _ _ _] rfl ?_
              refine gfrom [(0, .string _), (1, .string _), (2, .int _ _), (3, .int _ _), (9, .slice (some _) _ _), (10, .int _ _), (11, .int _ _)] ⟨rfl, rfl, rfl, rfl, rfl, rfl, rfl, trivial⟩ fun σ => ?_
              refine gseq fun N19 hN19 => ?_
              refine greg ?_
              refine gop (y_move (v := .string _) rfl) rfl rfl rfl ?_
              refine gop (y_move (v := .int _ _) rfl) rfl rfl rfl ?_
              refine gop (y_move (v := .string _) rfl) rfl rfl rfl ?_
              refine gop (y_lens Tryd.underlying9 rfl) rfl rfl rfl ?_
              refine gop (y_add rfl rfl ⟨by omega, by omega⟩) rfl rfl rfl ?_
              refine gop (y_strslice_lo Tryd.underlying9 rfl rfl (by omega) (by omega)) rfl rfl rfl ?_
              refine gop (y_assign (v := .string _) rfl) rfl rfl rfl ?_
              refine gops_nil ?_
              refine hN19 _ _ ?_
              refine gfrom [(0, .string _), (1, .string _), (2, .int _ _), (3, .int _ _), (9, .slice (some _) _ _), (10, .int _ _)] ⟨rfl, rfl, rfl, rfl, rfl, rfl, trivial⟩ fun σ => ?_
              refine greg ?_
              refine gop (y_move (v := .int _ _) rfl) rfl rfl rfl ?_
              refine gop (y_add rfl rfl ⟨by omega, by omega⟩) rfl rfl rfl ?_
              refine gop (y_assign (v := .int _ _) rfl) rfl rfl rfl ?_
              refine gops_nil ?_
              rw [show (pre ++ List.replicate (blanks s + 1 - pre.length) ByteArray.empty).set i (sc.extract 0 m) = (pre ++ [sc.extract 0 m]) ++ List.replicate (blanks s + 1 - (pre ++ [sc.extract 0 m]).length) ByteArray.empty from by rw [hi]; exact set_pre (by omega)]
              refine gnext2 ((i + 1, sc.extract (Lib.indexByte sc.data.toList 32 + ((⟨#[32]⟩ : ByteArray).size : Int)).toNat sc.size, pre ++ [sc.extract 0 m])) (by show blanks s - (pre ++ [sc.extract 0 m]).length < blanks s - pre.length; simp; omega) (by rw [show (Lib.indexByte sc.data.toList 32 + ((⟨#[32]⟩ : ByteArray).size : Int)).toNat = m + 1 by omega]; exact ⟨by simp [hi], by rw [← hp1, hm3]; simp, by simp; omega, by simp; omega⟩) ⟨rfl, rfl, trivial⟩ ⟨rfl, rfl, rfl, rfl, trivial⟩ ⟨_, rfl⟩
          · 
            replace hc36 := of_decide_eq_false hc36
            have hpl : pre.length = blanks s := by have h0 : ¬ ((i : Nat) : Int) < ((blanks s : Nat) : Int) + 1 - 1 := hc36; omega
            refine gexit ?_
            refine hN12 _ _ ?_
            refine gfrom [(0, .string _), (9, .slice (some _) _ _), (10, .int _ _)] ⟨rfl, rfl, rfl, trivial⟩ fun σ => ?_
            refine gseq fun N20 hN20 => ?_
            refine greg ?_
            refine gop (y_move (v := .slice (some _) _ _) rfl) rfl rfl rfl ?_
            refine gop (y_move (v := .int _ _) rfl) rfl rfl rfl ?_
            refine gop (y_move (v := .string _) rfl) rfl rfl rfl ?_
            refine gop (y_indexAddr (m := i) Tryd.underlying37 Tryd.sizeOf9 rfl rfl (by omega) (by omega) (by omega)) rfl rfl rfl ?_
            refine gop_store_row 0 (f := strCells) (l := pre ++ List.replicate (blanks s + 1 - pre.length) ByteArray.empty) (k := i) (o := 0) (v := .string _) (a := ByteArray.empty) (a' := sc) (fun _ => rfl) rfl rfl rfl Tryd.sizeOf9 rfl rfl rfl rfl (by simp; omega) (by rw [hi, List.getElem?_append_right (Nat.le_refl _), Nat.sub_self, List.getElem?_replicate, if_pos (by omega)]) (Nat.le_of_ble_eq_true rfl) rfl rfl ?_
            refine gops_nil ?_
            refine hN20 _ _ ?_
            refine gT [rowl _ _ _ _ _ _] rfl ?_
            refine gfrom [(9, .slice (some _) _ _), (10, .int _ _)] ⟨rfl, rfl, trivial⟩ fun σ => ?_
            refine gseq fun N21 hN21 => ?_
            refine greg ?_
            refine gop (y_move (v := .slice (some _) _ _) rfl) rfl rfl rfl ?_
            refine gop (y_move (v := .int _ _) rfl) rfl rfl rfl ?_
            refine gop (y_add rfl rfl ⟨by omega, by omega⟩) rfl rfl rfl ?_
            refine gop (y_slice_hi Tryd.underlying37 Tryd.sizeOf9 rfl rfl (by omega) (by omega)) rfl rfl rfl ?_
            refine gop (y_assign (v := .slice _ _ _) rfl) rfl rfl rfl ?_
            refine gops_nil ?_
            refine hN21 _ _ ?_
            refine gfrom [(8, .slice _ _ _)] ⟨rfl, trivial⟩ fun σ => ?_
            refine gret fun w1 hM => ?_
            refine ⟨_, res1 rfl (rt (v := .slice _ _ _) rfl), ?_⟩
            have hl : (pre ++ List.replicate (blanks s + 1 - pre.length) ByteArray.empty).set i sc = cutB s := by rw [hi, set_pre (by omega), ← hp1, (idx_missB (s := sc) (by omega)).2, show blanks s + 1 - (pre ++ [sc]).length = 0 by simp; omega]; simp
            rw [hl] at hM
            have hi1 : i = blanks s := by omega
            subst hi1
            exact ⟨_, _, rfl, rfl, hM⟩
      · 
         exact absurd hc20 (by decide)
set_option maxHeartbeats 1000000 in
theorem split_anyB (w : World) (s : ByteArray) (hs : s.size ≤ 4000000) :
    Calls Tryd.prog 44 #[.string s, .string ⟨#[32]⟩] w fun e w' => ∃ v T', e = .returned v ∧ T' = [rowl strCells w.heap.size 9 1 v (cutB s)] ∧ Mem w T' w' := by
  refine gcalls Tryd.func44 rfl Tryd.ntmps44 (Nat.le_of_ble_eq_true rfl) ?_
  refine gfrom [(0, .string _), (1, .string _)] ⟨rfl, rfl, trivial⟩ fun σ => ?_
  refine gseq fun N1 hN1 => ?_
  refine greg ?_
  refine gop (y_assign (v := .slice _ _ _) rfl) rfl rfl rfl ?_
  refine gops_nil ?_
  refine hN1 _ _ ?_
  refine gfrom [(0, .string _), (1, .string _)] ⟨rfl, rfl, trivial⟩ fun σ => ?_
  refine gseq fun N2 hN2 => ?_
  refine greg ?_
  refine gop (y_move (v := .string _) rfl) rfl rfl rfl ?_
  refine gop (y_move (v := .string _) rfl) rfl rfl rfl ?_
  refine gop_got (fun v T' => ∃ lo, w.heap.size ≤ lo ∧ T' = [rowl strCells lo 9 1 v (cutB s)]) (e_call (vs := [.string _, .string _, _, _]) Tryd.func70 rfl (by kernel_rfl) rfl) (fun w hM => (genSplit_anyB w s hs).mono fun _ _ ⟨v, T1, h1, h2, h3⟩ => ⟨v, T1, h1, ⟨_, hM.low.size, h2⟩, h3⟩) rfl rfl rfl ?_
  rintro v7 _ ⟨lo7, hlo7, rfl⟩
  refine gops_fact (fun w hM => row_form (hM.ok _ (List.mem_of_getElem? (i := 0) rfl))) ?_
  rintro ⟨A7, c7, rfl, hc7, hm7, hn7⟩
  refine gop (y_assign (v := .slice A7 _ c7) rfl) rfl rfl rfl ?_
  refine gops_nil ?_
  refine hN2 _ _ ?_
  refine gT [rowl _ _ _ _ _ _] rfl ?_
  refine gfrom [(4, .slice A7 _ c7)] ⟨rfl, trivial⟩ fun σ => ?_
  refine gret fun w1 hM => ?_
  refine ⟨_, res1 rfl (rt (v := .slice A7 _ c7) rfl), ?_⟩
  exact ⟨_, _, rfl, rfl, weak_lower 0 rfl hlo7 _ hM⟩
set_option maxHeartbeats 1000000 in
theorem slIndexByte_any (w : World) (s : ByteArray) (c : Int) : Calls Tryd.prog 78 #[.string s, .int .u8 c] w fun e w' => e = .returned (.int .i64 (firstIdx s c.toNat.toUInt8)) ∧ Below w.heap.size w w' := by
  refine gcalls Tryd.func78 rfl Tryd.ntmps78 (Nat.le_of_ble_eq_true rfl) ?_
  refine gfrom [(0, .string _), (1, .int _ _)] ⟨rfl, rfl, trivial⟩ fun σ => ?_
  refine gseq fun N1 hN1 => ?_
  refine greg ?_
  refine gop (y_assign (v := .int _ _) rfl) rfl rfl rfl ?_
  refine gops_nil ?_
  refine hN1 _ _ ?_
  refine gfrom [(0, .string _), (1, .int _ _)] ⟨rfl, rfl, trivial⟩ fun σ => ?_
  refine gseq fun N2 hN2 => ?_
  refine greg ?_
  refine gop (y_move (v := .string _) rfl) rfl rfl rfl ?_
  refine gop (y_move (v := .int _ _) rfl) rfl rfl rfl ?_
  refine gop (y_indexByte Tryd.func95 (by kernel_rfl) (by kernel_rfl) (by kernel_rfl) (by kernel_rfl) rfl rfl) rfl rfl rfl ?_
  refine gop (y_assign (v := .int _ _) rfl) rfl rfl rfl ?_
  refine gops_nil ?_
  refine hN2 _ _ ?_
  refine gfrom [(4, .int _ _)] ⟨rfl, trivial⟩ fun σ => ?_
  refine gret fun w1 hM => ?_
  refine ⟨_, res1 rfl (rt (v := .int _ _) rfl), ?_⟩
  exact ⟨rfl, hM.low⟩
set_option maxHeartbeats 1000000 in
theorem indexByte_any (w : World) (s : ByteArray) (c : Int) : Calls Tryd.prog 58 #[.string s, .int .u8 c] w fun e w' => e = .returned (.int .i64 (firstIdx s c.toNat.toUInt8)) ∧ Below w.heap.size w w' := by
  refine gcalls Tryd.func58 rfl Tryd.ntmps58 (Nat.le_of_ble_eq_true rfl) ?_
  refine gfrom [(0, .string _), (1, .int _ _)] ⟨rfl, rfl, trivial⟩ fun σ => ?_
  refine gseq fun N1 hN1 => ?_
  refine greg ?_
  refine gop (y_assign (v := .int _ _) rfl) rfl rfl rfl ?_
  refine gops_nil ?_
  refine hN1 _ _ ?_
  refine gfrom [(0, .string _), (1, .int _ _)] ⟨rfl, rfl, trivial⟩ fun σ => ?_
  refine gseq fun N2 hN2 => ?_
  refine greg ?_
  refine gop (y_move (v := .string _) rfl) rfl rfl rfl ?_
  refine gop (y_move (v := .int _ _) rfl) rfl rfl rfl ?_
  refine gop_pure (e_call (vs := [.string _, .int _ _]) Tryd.func78 rfl (by kernel_rfl) rfl) (fun w hM => slIndexByte_any w _ _) rfl rfl rfl ?_
  refine gop (y_assign (v := .int _ _) rfl) rfl rfl rfl ?_
  refine gops_nil ?_
  refine hN2 _ _ ?_
  refine gfrom [(4, .int _ _)] ⟨rfl, trivial⟩ fun σ => ?_
  refine gret fun w1 hM => ?_
  refine ⟨_, res1 rfl (rt (v := .int _ _) rfl), ?_⟩
  exact ⟨rfl, hM.low⟩
set_option maxHeartbeats 1000000 in
theorem linesValidate_any (w : World) (A : Option Addr) (c : Nat) (l : List ByteArray) (hl : Rdl w 0 1 strCells A l) (hm : l.length ≤ maxLen) : Calls Tryd.prog 29 #[.slice A l.length c] w fun e w' => e = .returned (fv (linesF l)) ∧ Below w.heap.size w w' := by
  unfold maxLen at hm
  refine gcalls Tryd.func29 rfl Tryd.ntmps29 (Nat.le_of_ble_eq_true rfl) ?_
  refine gfrom [(0, .slice _ _ _)] ⟨rfl, trivial⟩ fun σ => ?_
  refine gseq fun N1 hN1 => ?_
  refine greg ?_
  refine gop_alloc (cs := #[.int .i64 0, .int .i64 0]) Tryd.zeroValue23 rfl rfl (fun b2 hb2 => ?_)
  refine gops_nil ?_
  refine hN1 _ _ ?_
  refine gT [box b2 _] rfl ?_
  refine gfrom [(0, .slice _ _ _), (2, .pointer _)] ⟨rfl, rfl, trivial⟩ fun σ => ?_
  refine gseq fun N2 hN2 => ?_
  refine gseq fun N3 hN3 => ?_
  refine greg ?_
  refine gop (y_move (v := .slice _ _ _) rfl) rfl rfl rfl ?_
  refine gop (y_len Tryd.underlying37 rfl) rfl rfl rfl ?_
  refine gop (y_gtr rfl rfl) rfl rfl rfl ?_
  refine gops_nil ?_
  refine hN3 _ _ ?_
  refine gfrom [(0, .slice _ _ _), (2, .pointer _), (7, .bool _)] ⟨rfl, rfl, rfl, trivial⟩ fun σ => ?_
  refine gcond (b := _) rfl (fun hc7 => ?_) (fun hc7 => ?_)
  · 
    replace hc7 := of_decide_eq_true hc7
    have hF : linesF l = ⟨2, -1⟩ := by rw [linesF, if_pos (by omega)]
    refine gseq fun N4 hN4 => ?_
    refine greg ?_
    refine gop (y_build (vs := [(0, _), (1, _)]) (cells := #[_, _]) rfl (bd23_0_1 _ _)) rfl rfl rfl ?_
    refine gop_store 0 (v := .agg #[_, _]) (cs' := #[_, _]) rfl rfl Tryd.sizeOf23 rfl rfl rfl rfl (Nat.le_of_ble_eq_true rfl) rfl rfl ?_
    refine gops_nil ?_
    refine hN4 _ _ ?_
    refine gT [box b2 _] rfl ?_
    refine gfrom [(2, .pointer _)] ⟨rfl, trivial⟩ fun σ => ?_
    refine gret fun w1 hM => ?_
    refine ⟨_, res1 rfl (rc 0 (cs := [_, _]) hM rfl rfl Tryd.isAgg23 Tryd.sizeOf23 rfl), ?_⟩
    exact ⟨by rw [hF], hM.low⟩
  · 
    replace hc7 := of_decide_eq_false hc7
    have hF : linesF l = scan (fun _ s => lineCode s) l := by rw [linesF, if_neg (by omega)]
    refine gskip ?_
    refine hN2 _ _ ?_
    refine gfrom [(0, .slice _ _ _), (2, .pointer _)] ⟨rfl, rfl, trivial⟩ fun σ => ?_
    refine gseq fun N5 hN5 => ?_
    refine gseq fun N6 hN6 => ?_
    refine greg ?_
    refine gop (y_move (v := .slice _ _ _) rfl) rfl rfl rfl ?_
    refine gop (y_len Tryd.underlying37 rfl) rfl rfl rfl ?_
    refine gop (y_move (v := .int _ _) rfl) rfl rfl rfl ?_
    refine gops_nil ?_
    refine hN6 _ _ ?_
    refine gfrom [(2, .pointer _), (9, .slice _ _ _), (10, .int _ _), (11, .int _ _)] ⟨rfl, rfl, rfl, rfl, trivial⟩ fun σ => ?_
    refine gblock ?_
    refine gfrom2 [(11, .int _ _)] [(2, .pointer _), (9, .slice _ _ _), (10, .int _ _)] ⟨rfl, trivial⟩ ⟨rfl, rfl, rfl, trivial⟩ fun σ => ?_
    refine gloop2 (G := Nat) (fun k => k ≤ l.length ∧ ∀ j (h : j < l.length), j < k → lineCode l[j] = 0) (fun k => l.length - k) (fun k => [(11, .int .i64 (k : Int))]) (fun k => []) (0) ?h0 ⟨rfl, trivial⟩ ⟨rfl, rfl, rfl, trivial⟩ rfl ?round
    case h0 => exact ⟨Nat.zero_le _, fun _ _ h => absurd h (by omega)⟩
    case round =>
      intro k hφ σ
      obtain ⟨hk, hz⟩ := hφ
      refine gseq fun N7 hN7 => ?_
      refine greg ?_
      refine gop (y_lss rfl rfl) rfl rfl rfl ?_
      refine gops_nil ?_
      refine hN7 _ _ ?_
      refine gfrom [(2, .pointer _), (9, .slice _ _ _), (10, .int _ _), (11, .int _ _), (12, .bool _)] ⟨rfl, rfl, rfl, rfl, rfl, trivial⟩ fun σ => ?_
      refine gseq fun N8 hN8 => ?_
      refine gcond (b := _) rfl (fun hc12 => ?_) (fun hc12 => ?_)
      · 
        replace hc12 := of_decide_eq_true hc12
        have hk1 : k < l.length := by omega
        obtain ⟨ad, rfl, -, hca⟩ := hl.at_ hk1
        refine gskip ?_
        refine hN8 _ _ ?_
        refine gfrom [(2, .pointer _), (9, .slice _ _ _), (10, .int _ _), (11, .int _ _)] ⟨rfl, rfl, rfl, rfl, trivial⟩ fun σ => ?_
        refine gseq fun N9 hN9 => ?_
        refine gblock ?_
        refine gseq fun N10 hN10 => ?_
        refine greg ?_
        refine gop (y_move (v := .int _ _) rfl) rfl rfl rfl ?_
        refine gop (y_indexAddr Tryd.underlying37 Tryd.sizeOf9 rfl rfl rfl (by omega) (by omega)) rfl rfl rfl ?_
        refine gop (y_load Tryd.isAgg9 rfl (cell_base (hca 0 _ rfl))) rfl rfl rfl ?_
        refine gop (y_assign (v := .int _ _) rfl) rfl rfl rfl ?_
        refine gop (y_assign (v := .string _) rfl) rfl rfl rfl ?_
        refine gops_nil ?_
        refine hN10 _ _ ?_
        refine gfrom [(2, .pointer _), (3, .int _ _), (4, .string _), (9, .slice _ _ _), (10, .int _ _), (11, .int _ _)] ⟨rfl, rfl, rfl, rfl, rfl, rfl, trivial⟩ fun σ => ?_
        refine gseq fun N11 hN11 => ?_
        refine gseq fun N12 hN12 => ?_
        refine greg ?_
        refine gop (y_move (v := .string _) rfl) rfl rfl rfl ?_
        refine gop (y_lens Tryd.underlying9 rfl) rfl rfl rfl ?_
        refine gop (y_gtr rfl rfl) rfl rfl rfl ?_
        refine gops_nil ?_
        refine hN12 _ _ ?_
        refine gfrom [(2, .pointer _), (3, .int _ _), (4, .string _), (9, .slice _ _ _), (10, .int _ _), (11, .int _ _), (18, .bool _)] ⟨rfl, rfl, rfl, rfl, rfl, rfl, rfl, trivial⟩ fun σ => ?_
        refine gcond (b := _) rfl (fun hc18 => ?_) (fun hc18 => ?_)
        · 
          replace hc18 := of_decide_eq_true hc18
          have hcd : lineCode l[k] = 2 := by rw [lineCode, if_pos (by omega)]
          refine gseq fun N13 hN13 => ?_
          refine greg ?_
          refine gop (y_move (v := .int _ _) rfl) rfl rfl rfl ?_
          refine gop (y_build (vs := [(0, _), (1, .int _ _)]) (cells := #[_, _]) rfl (bd23_0_1 _ _)) rfl rfl rfl ?_
          refine gop_store 0 (v := .agg #[_, _]) (cs' := #[_, _]) rfl rfl Tryd.sizeOf23 rfl rfl rfl rfl (Nat.le_of_ble_eq_true rfl) rfl rfl ?_
          refine gops_nil ?_
          refine hN13 _ _ ?_
          refine gT [box b2 _] rfl ?_
          refine gfrom [(2, .pointer _)] ⟨rfl, trivial⟩ fun σ => ?_
          refine gret fun w1 hM => ?_
          refine ⟨_, res1 rfl (rc 0 (cs := [_, _]) hM rfl rfl Tryd.isAgg23 Tryd.sizeOf23 rfl), ?_⟩
          exact ⟨by rw [hF, scan_at hk1 hz (by rw [hcd]; decide), hcd], hM.low⟩
        · 
          replace hc18 := of_decide_eq_false hc18
          refine gskip ?_
          refine hN11 _ _ ?_
          refine gfrom [(2, .pointer _), (3, .int _ _), (4, .string _), (9, .slice _ _ _), (10, .int _ _), (11, .int _ _)] ⟨rfl, rfl, rfl, rfl, rfl, rfl, trivial⟩ fun σ => ?_
          refine gseq fun N14 hN14 => ?_
          refine greg ?_
          refine gop (y_move (v := .string _) rfl) rfl rfl rfl ?_
          refine gop_pure (e_call (vs := [.string _, _]) Tryd.func58 rfl (by kernel_rfl) rfl) (fun w hM => indexByte_any w _ _) rfl rfl rfl ?_
          refine gop (y_geq rfl rfl) rfl rfl rfl ?_
          refine gops_nil ?_
          refine hN14 _ _ ?_
          refine gfrom [(2, .pointer _), (3, .int _ _), (9, .slice _ _ _), (10, .int _ _), (11, .int _ _), (23, .bool _)] ⟨rfl, rfl, rfl, rfl, rfl, rfl, trivial⟩ fun σ => ?_
          refine gcond (b := _) rfl (fun hc23 => ?_) (fun hc23 => ?_)
          · 
            replace hc23 := of_decide_eq_true hc23
            have hcd : lineCode l[k] = 5 := by rw [lineCode, if_neg (by omega), if_pos (show 0 ≤ firstIdx l[k] 10 from hc23)]
            refine gseq fun N15 hN15 => ?_
            refine greg ?_
            refine gop (y_move (v := .int _ _) rfl) rfl rfl rfl ?_
            refine gop (y_build (vs := [(0, _), (1, .int _ _)]) (cells := #[_, _]) rfl (bd23_0_1 _ _)) rfl rfl rfl ?_
            refine gop_store 0 (v := .agg #[_, _]) (cs' := #[_, _]) rfl rfl Tryd.sizeOf23 rfl rfl rfl rfl (Nat.le_of_ble_eq_true rfl) rfl rfl ?_
            refine gops_nil ?_
            refine hN15 _ _ ?_
            refine gT [box b2 _] rfl ?_
            refine gfrom [(2, .pointer _)] ⟨rfl, trivial⟩ fun σ => ?_
            refine gret fun w1 hM => ?_
            refine ⟨_, res1 rfl (rc 0 (cs := [_, _]) hM rfl rfl Tryd.isAgg23 Tryd.sizeOf23 rfl), ?_⟩
            exact ⟨by rw [hF, scan_at hk1 hz (by rw [hcd]; decide), hcd], hM.low⟩
          · 
            replace hc23 := of_decide_eq_false hc23
            refine gskip ?_
            refine hN9 _ _ ?_
            refine gfrom [(2, .pointer _), (9, .slice _ _ _), (10, .int _ _), (11, .int _ _)] ⟨rfl, rfl, rfl, rfl, trivial⟩ fun σ => ?_
            refine greg ?_
            refine gop (y_add rfl rfl ⟨by omega, by omega⟩) rfl rfl rfl ?_
            refine gop (y_move (v := .int _ _) rfl) rfl rfl rfl ?_
            refine gops_nil ?_
            refine gnext2 (k + 1) (by omega) (⟨by omega, fun j h hj => by rcases Nat.lt_succ_iff_lt_or_eq.1 hj with h1 | rfl; exact hz j h h1; unfold lineCode; rw [if_neg (by omega), if_neg (show ¬ 0 ≤ firstIdx l[j] 10 from hc23)]⟩) ⟨rfl, trivial⟩ ⟨rfl, rfl, rfl, trivial⟩ ⟨_, rfl⟩
      · 
        replace hc12 := of_decide_eq_false hc12
        have hF2 : linesF l = ⟨0, 0⟩ := by rw [hF]; exact scan_ok fun j hj => hz j hj (by omega)
        refine gexit ?_
        refine hN5 _ _ ?_
        refine gfrom [(2, .pointer _)] ⟨rfl, trivial⟩ fun σ => ?_
        refine gseq fun N16 hN16 => ?_
        refine greg ?_
        refine gop (y_build (vs := []) (cells := #[.int .i64 0, .int .i64 0]) rfl bd23_) rfl rfl rfl ?_
        refine gop_store 0 (v := .agg #[_, _]) (cs' := #[_, _]) rfl rfl Tryd.sizeOf23 rfl rfl rfl rfl (Nat.le_of_ble_eq_true rfl) rfl rfl ?_
        refine gops_nil ?_
        refine hN16 _ _ ?_
        refine gT [box b2 _] rfl ?_
        refine gfrom [(2, .pointer _)] ⟨rfl, trivial⟩ fun σ => ?_
        refine gret fun w1 hM => ?_
        refine ⟨_, res1 rfl (rc 0 (cs := [_, _]) hM rfl rfl Tryd.isAgg23 Tryd.sizeOf23 rfl), ?_⟩
        exact ⟨by rw [hF2], hM.low⟩
end Go.Proofs.YtijpaljdclhehaaDoor
namespace Go.Proofs.YtijpaljdclhehaaDoor
open Go.RowKit Go.Cf
set_option maxRecDepth 10000
theorem fa32_0 (a : Addr) (w : World) : (Instr.fieldAt 32 (.pointer (some a)) 0).run Tryd.prog w = .ok (.pointer (some (a.add 0))) w := by kernel_rfl
theorem fa32_1 (a : Addr) (w : World) : (Instr.fieldAt 32 (.pointer (some a)) 1).run Tryd.prog w = .ok (.pointer (some (a.add 1))) w := by kernel_rfl
theorem el3 : Elem Tryd.prog 3 1 8 := elem_of (z := .int .i64 0) (by kernel_rfl) rfl (by decide)
set_option maxHeartbeats 2000000 in
theorem check_any (w : World) (pat : ByteArray) (us : List Int) (A : Option Addr) (c : Nat) (hR : RuleR w 0 ⟨⟨pat, us⟩, A, c⟩) : Calls Tryd.prog 57 #[.agg #[.string pat, .slice A us.length c]] w fun e w' => e = .returned (.int .i64 (ruleCode ⟨pat, us⟩)) ∧ Below w.heap.size w w' := by
  have hmx : c ≤ maxLen := hR.sb.max
  have hln : us.length ≤ c := hR.sb.len
  have hrd : Rdl w 0 1 intCells A us := hR.rd
  unfold maxLen at hmx
  refine gcalls Tryd.func57 rfl Tryd.ntmps57 (Nat.le_of_ble_eq_true rfl) ?_
  refine gfrom [(0, .agg #[_, _])] ⟨rfl, trivial⟩ fun σ => ?_
  refine gseq fun N1 hN1 => ?_
  refine greg ?_
  refine gop_box (v := .agg #[_, _]) (cs := #[_, _]) rfl rfl rfl (fun b1 hb1 => ?_)
  refine gop (y_assign (v := .int _ _) rfl) rfl rfl rfl ?_
  refine gops_nil ?_
  refine hN1 _ _ ?_
  refine gT [box b1 _] rfl ?_
  refine gfrom [(1, .pointer _)] ⟨rfl, trivial⟩ fun σ => ?_
  refine gseq fun N2 hN2 => ?_
  refine gseq fun N3 hN3 => ?_
  refine greg ?_
  refine gop (y_fieldAddr_box fa32_0 rfl) rfl rfl rfl ?_
  refine gop (y_load Tryd.isAgg9 rfl (cell_box 0 rfl rfl)) rfl rfl rfl ?_
  refine gop_pure (e_call (vs := [.string _]) Tryd.func38 rfl (by kernel_rfl) rfl) (fun w hM => validate_any w _) rfl rfl rfl ?_
  refine gop_alloc (cs := #[.int .i64 0, .int .i64 0]) Tryd.zeroValue23 rfl rfl (fun b3 hb3 => ?_)
  refine gop_store 1 (v := .agg #[_, _]) (cs' := #[_, _]) rfl rfl Tryd.sizeOf23 rfl rfl rfl rfl (Nat.le_of_ble_eq_true rfl) rfl rfl ?_
  refine gops_nil ?_
  refine hN3 _ _ ?_
  refine gT [box b1 _, box b3 _] rfl ?_
  refine gfrom [(1, .pointer _), (3, .pointer _)] ⟨rfl, rfl, trivial⟩ fun σ => ?_
  refine gseq fun N4 hN4 => ?_
  refine greg ?_
  refine gop (y_loads (cs := [_, _]) Tryd.isAgg23 Tryd.sizeOf23 rfl rfl (cells_box 1 rfl)) rfl rfl rfl ?_
  refine gop (y_build (vs := []) (cells := #[.int .i64 0, .int .i64 0]) rfl bd23_) rfl rfl rfl ?_
  refine gop (y_bin (vx := .agg #[_, _]) (vy := .agg #[_, _]) rfl rfl (fun w => eg23 _ _ _ _ _ w) (fun w => ne23 _ _ _ _ w)) rfl rfl rfl ?_
  refine gops_nil ?_
  refine hN4 _ _ ?_
  refine gfrom [(1, .pointer _), (3, .pointer _), (11, .bool _)] ⟨rfl, rfl, rfl, trivial⟩ fun σ => ?_
  refine gcond (b := _) rfl (fun hc11 => ?_) (fun hc11 => ?_)
  · 
    replace hc11 := fault_ne.1 hc11
    have hC : ruleCode ⟨pat, us⟩ = (patFault pat).code := by rw [ruleCode, if_pos (fun h => hc11 (by rw [patFault, if_pos h]))]; exact (patFault_code pat).symm
    refine gseq fun N5 hN5 => ?_
    refine greg ?_
    refine gop (y_fieldAddr_box fa23_0 rfl) rfl rfl rfl ?_
    refine gop (y_load Tryd.isAgg3 rfl (cell_box 1 rfl rfl)) rfl rfl rfl ?_
    refine gop (y_assign (v := .int _ _) rfl) rfl rfl rfl ?_
    refine gops_nil ?_
    refine hN5 _ _ ?_
    refine gfrom [(2, .int _ _)] ⟨rfl, trivial⟩ fun σ => ?_
    refine gret fun w1 hM => ?_
    refine ⟨_, res1 rfl (rt (v := .int _ _) rfl), ?_⟩
    exact ⟨by rw [hC], hM.low⟩
  · 
    replace hc11 := fault_eq.1 hc11
    have hp0 : patCode pat = 0 := by have h0 := patFault_code pat; rw [hc11] at h0; have h1 : (0 : Int) = (patCode pat : Int) := h0; omega
    refine gskip ?_
    refine hN2 _ _ ?_
    refine gfrom [(1, .pointer _)] ⟨rfl, trivial⟩ fun σ => ?_
    refine gseq fun N6 hN6 => ?_
    refine gseq fun N7 hN7 => ?_
    refine greg ?_
    refine gop (y_fieldAddr_box fa32_1 rfl) rfl rfl rfl ?_
    refine gop (y_load Tryd.isAgg30 rfl (cell_box 0 rfl rfl)) rfl rfl rfl ?_
    refine gop (y_len Tryd.underlying30 rfl) rfl rfl rfl ?_
    refine gop (y_gtr rfl rfl) rfl rfl rfl ?_
    refine gops_nil ?_
    refine hN7 _ _ ?_
    refine gfrom [(1, .pointer _), (17, .bool _)] ⟨rfl, rfl, trivial⟩ fun σ => ?_
    refine gcond (b := _) rfl (fun hc17 => ?_) (fun hc17 => ?_)
    · 
      replace hc17 := of_decide_eq_true hc17
      have hC : ruleCode ⟨pat, us⟩ = 2 := by rw [ruleCode, if_neg (fun h => h hp0), if_pos (show 4 < us.length by omega)]
      refine gseq fun N8 hN8 => ?_
      refine greg ?_
      refine gop (y_assign (v := .int _ _) rfl) rfl rfl rfl ?_
      refine gops_nil ?_
      refine hN8 _ _ ?_
      refine gfrom [(2, .int _ _)] ⟨rfl, trivial⟩ fun σ => ?_
      refine gret fun w1 hM => ?_
      refine ⟨_, res1 rfl (rt (v := .int _ _) rfl), ?_⟩
      exact ⟨by rw [hC], hM.low⟩
    · 
      replace hc17 := of_decide_eq_false hc17
      have hC : ruleCode ⟨pat, us⟩ = uCode (-1) us := by rw [ruleCode, if_neg (fun h => h hp0), if_neg (show ¬ 4 < us.length by omega)]
      refine gskip ?_
      refine hN6 _ _ ?_
      refine gfrom [(1, .pointer _)] ⟨rfl, trivial⟩ fun σ => ?_
      refine gseq fun N9 hN9 => ?_
      refine gseq fun N10 hN10 => ?_
      refine greg ?_
      refine gop (y_fieldAddr_box fa32_1 rfl) rfl rfl rfl ?_
      refine gop (y_load Tryd.isAgg30 rfl (cell_box 0 rfl rfl)) rfl rfl rfl ?_
      refine gop (y_len Tryd.underlying30 rfl) rfl rfl rfl ?_
      refine gop (y_move (v := .int _ _) rfl) rfl rfl rfl ?_
      refine gops_nil ?_
      refine hN10 _ _ ?_
      refine gfrom [(1, .pointer _), (19, .slice _ _ _), (20, .int _ _), (21, .int _ _)] ⟨rfl, rfl, rfl, rfl, trivial⟩ fun σ => ?_
      refine gblock ?_
      refine gfrom2 [(21, .int _ _)] [(1, .pointer _), (19, .slice _ _ _), (20, .int _ _)] ⟨rfl, trivial⟩ ⟨rfl, rfl, rfl, trivial⟩ fun σ => ?_
      refine gloop2 (G := Nat) (fun k => k ≤ us.length ∧ uCode (prevU us k) (us.drop k) = uCode (-1) us) (fun k => us.length - k) (fun k => [(21, .int .i64 (k : Int))]) (fun k => []) (0) ?h0 ⟨rfl, trivial⟩ ⟨rfl, rfl, rfl, trivial⟩ rfl ?round
      case h0 => exact ⟨Nat.zero_le _, rfl⟩
      case round =>
        intro k hφ σ
        obtain ⟨hk, hu⟩ := hφ
        refine gseq fun N11 hN11 => ?_
        refine greg ?_
        refine gop (y_lss rfl rfl) rfl rfl rfl ?_
        refine gops_nil ?_
        refine hN11 _ _ ?_
        refine gfrom [(1, .pointer _), (19, .slice _ _ _), (20, .int _ _), (21, .int _ _), (22, .bool _)] ⟨rfl, rfl, rfl, rfl, rfl, trivial⟩ fun σ => ?_
        refine gseq fun N12 hN12 => ?_
        refine gcond (b := _) rfl (fun hc22 => ?_) (fun hc22 => ?_)
        · 
          replace hc22 := of_decide_eq_true hc22
          have hk1 : k < us.length := by omega
          obtain ⟨ad, rfl, -, hca⟩ := hrd.at_ hk1
          refine gskip ?_
          refine hN12 _ _ ?_
          refine gfrom [(1, .pointer _), (19, .slice _ _ _), (20, .int _ _), (21, .int _ _)] ⟨rfl, rfl, rfl, rfl, trivial⟩ fun σ => ?_
          refine gseq fun N13 hN13 => ?_
          refine gblock ?_
          refine gseq fun N14 hN14 => ?_
          refine greg ?_
          refine gop (y_move (v := .int _ _) rfl) rfl rfl rfl ?_
          refine gop (y_indexAddr (m := k) Tryd.underlying30 Tryd.sizeOf3 rfl rfl (by omega) (by omega) (by omega)) rfl rfl rfl ?_
          refine gop (y_load Tryd.isAgg3 rfl (cell_base (hca 0 _ rfl))) rfl rfl rfl ?_
          refine gop (y_assign (v := .int _ _) rfl) rfl rfl rfl ?_
          refine gop (y_assign (v := .int _ _) rfl) rfl rfl rfl ?_
          refine gops_nil ?_
          refine hN14 _ _ ?_
          refine gfrom [(1, .pointer _), (4, .int _ _), (5, .int _ _), (19, .slice _ _ _), (20, .int _ _), (21, .int _ _)] ⟨rfl, rfl, rfl, rfl, rfl, rfl, trivial⟩ fun σ => ?_
          refine gseq fun N15 hN15 => ?_
          refine gseq fun N16 hN16 => ?_
          refine greg ?_
          refine gop (y_move (v := .int _ _) rfl) rfl rfl rfl ?_
          refine gop (y_lss rfl rfl) rfl rfl rfl ?_
          refine gop (y_move (v := .bool _) rfl) rfl rfl rfl ?_
          refine gop_if (want := false) rfl rfl rfl rfl rfl rfl (fun hg28 => ?_) (fun hg28 => ?_)
          · 
            have hg28d := of_decide_eq_false hg28
            refine gop (y_bare (y_move (v := .int _ _) rfl)) rfl rfl rfl ?_
            refine gop_on rfl rfl rfl rfl hg28 ?_
            refine gop (y_bare (y_gtr rfl rfl)) rfl rfl rfl ?_
            refine gop (y_pick_f (v := .bool _) rfl hg28 rfl) rfl rfl rfl ?_
            refine gops_nil ?_
            refine hN16 _ _ ?_
            refine gfrom [(1, .pointer _), (4, .int _ _), (5, .int _ _), (19, .slice _ _ _), (20, .int _ _), (21, .int _ _), (31, .bool _)] ⟨rfl, rfl, rfl, rfl, rfl, rfl, rfl, trivial⟩ fun σ => ?_
            refine gcond (b := _) rfl (fun hc31 => ?_) (fun hc31 => ?_)
            · 
              replace hc31 := of_decide_eq_true hc31
              refine gseq fun N17 hN17 => ?_
              refine greg ?_
              refine gop (y_assign (v := .int _ _) rfl) rfl rfl rfl ?_
              refine gops_nil ?_
              refine hN17 _ _ ?_
              refine gfrom [(2, .int _ _)] ⟨rfl, trivial⟩ fun σ => ?_
              refine gret fun w1 hM => ?_
              refine ⟨_, res1 rfl (rt (v := .int _ _) rfl), ?_⟩
              exact ⟨by rw [hC, ← hu, uCode_bad hk1 (by omega)], hM.low⟩
            · 
              replace hc31 := of_decide_eq_false hc31
              refine gskip ?_
              refine hN15 _ _ ?_
              refine gfrom [(1, .pointer _), (4, .int _ _), (5, .int _ _), (19, .slice _ _ _), (20, .int _ _), (21, .int _ _)] ⟨rfl, rfl, rfl, rfl, rfl, rfl, trivial⟩ fun σ => ?_
              refine gseq fun N18 hN18 => ?_
              refine greg ?_
              refine gop (y_move (v := .int _ _) rfl) rfl rfl rfl ?_
              refine gop (y_gtr rfl rfl) rfl rfl rfl ?_
              refine gop (y_move (v := .bool _) rfl) rfl rfl rfl ?_
              refine gop_if (want := true) rfl rfl rfl rfl rfl rfl (fun hg34 => ?_) (fun hg34 => ?_)
              · 
                have hg34d := of_decide_eq_true hg34
                have hk0 : 0 < k := by omega
                obtain ⟨ad2, he2, -, hcp⟩ := hrd.at_ (show k - 1 < us.length by omega)
                cases he2
                refine gop (y_bare (y_move (v := .int _ _) rfl)) rfl rfl rfl ?_
                refine gop_on rfl rfl rfl rfl hg34 ?_
                refine gop (y_bare (y_fieldAddr_box fa32_1 rfl)) rfl rfl rfl ?_
                refine gop_on rfl rfl rfl rfl hg34 ?_
                refine gop (y_bare (y_load Tryd.isAgg30 rfl (cell_box 0 rfl rfl))) rfl rfl rfl ?_
                refine gop_on rfl rfl rfl rfl hg34 ?_
                refine gop (y_bare (y_move (v := .int _ _) rfl)) rfl rfl rfl ?_
                refine gop_on rfl rfl rfl rfl hg34 ?_
                refine gop (y_bare (y_sub rfl rfl ⟨by omega, by omega⟩)) rfl rfl rfl ?_
                refine gop_on rfl rfl rfl rfl hg34 ?_
                refine gop (y_bare (y_indexAddr (m := k - 1) Tryd.underlying30 Tryd.sizeOf3 rfl rfl (by omega) (by omega) (by omega))) rfl rfl rfl ?_
                refine gop_on rfl rfl rfl rfl hg34 ?_
                refine gop (y_bare (y_load Tryd.isAgg3 rfl (cell_base (hcp 0 _ rfl)))) rfl rfl rfl ?_
                refine gop_on rfl rfl rfl rfl hg34 ?_
                refine gop (y_bare (y_leq rfl rfl)) rfl rfl rfl ?_
                refine gop (y_pick_t (v := .bool _) rfl hg34 rfl) rfl rfl rfl ?_
                refine gops_nil ?_
                refine hN18 _ _ ?_
                refine gfrom [(1, .pointer _), (19, .slice _ _ _), (20, .int _ _), (21, .int _ _), (43, .bool _)] ⟨rfl, rfl, rfl, rfl, rfl, trivial⟩ fun σ => ?_
                refine gcond (b := _) rfl (fun hc43 => ?_) (fun hc43 => ?_)
                · 
                  replace hc43 := of_decide_eq_true hc43
                  refine gseq fun N19 hN19 => ?_
                  refine greg ?_
                  refine gop (y_assign (v := .int _ _) rfl) rfl rfl rfl ?_
                  refine gops_nil ?_
                  refine hN19 _ _ ?_
                  refine gfrom [(2, .int _ _)] ⟨rfl, trivial⟩ fun σ => ?_
                  refine gret fun w1 hM => ?_
                  refine ⟨_, res1 rfl (rt (v := .int _ _) rfl), ?_⟩
                  exact ⟨by rw [hC, ← hu, uCode_old hk1 (by omega) (by rw [prevU_pos hk0 (by omega)]; exact hc43)], hM.low⟩
                · 
                  replace hc43 := of_decide_eq_false hc43
                  refine gskip ?_
                  refine hN13 _ _ ?_
                  refine gfrom [(1, .pointer _), (19, .slice _ _ _), (20, .int _ _), (21, .int _ _)] ⟨rfl, rfl, rfl, rfl, trivial⟩ fun σ => ?_
                  refine greg ?_
                  refine gop (y_add rfl rfl ⟨by omega, by omega⟩) rfl rfl rfl ?_
                  refine gop (y_move (v := .int _ _) rfl) rfl rfl rfl ?_
                  refine gops_nil ?_
                  refine gnext2 (k + 1) (by omega) (⟨by omega, (uCode_next hk1 (by omega) (by rw [prevU_pos hk0 (by omega)]; exact hc43)).symm.trans hu⟩) ⟨rfl, trivial⟩ ⟨rfl, rfl, rfl, trivial⟩ ⟨_, rfl⟩
              · 
                have hg34d := of_decide_eq_false hg34
                refine gop_off rfl rfl rfl rfl hg34 rfl rfl ?_
                refine gop_off rfl rfl rfl rfl hg34 rfl rfl ?_
                refine gop_off rfl rfl rfl rfl hg34 rfl rfl ?_
                refine gop_off rfl rfl rfl rfl hg34 rfl rfl ?_
                refine gop_off rfl rfl rfl rfl hg34 rfl rfl ?_
                refine gop_off rfl rfl rfl rfl hg34 rfl rfl ?_
                refine gop_off rfl rfl rfl rfl hg34 rfl rfl ?_
                refine gop (y_pick_f (v := .bool _) rfl hg34 rfl) rfl rfl rfl ?_
                refine gops_nil ?_
                refine hN18 _ _ ?_
                refine gfrom [(1, .pointer _), (19, .slice _ _ _), (20, .int _ _), (21, .int _ _), (43, .bool _)] ⟨rfl, rfl, rfl, rfl, rfl, trivial⟩ fun σ => ?_
                refine gcond (b := _) rfl (fun hc43 => ?_) (fun hc43 => ?_)
                · 
                  cases hc43
                · 
                  refine gskip ?_
                  refine hN13 _ _ ?_
                  refine gfrom [(1, .pointer _), (19, .slice _ _ _), (20, .int _ _), (21, .int _ _)] ⟨rfl, rfl, rfl, rfl, trivial⟩ fun σ => ?_
                  refine greg ?_
                  refine gop (y_add rfl rfl ⟨by omega, by omega⟩) rfl rfl rfl ?_
                  refine gop (y_move (v := .int _ _) rfl) rfl rfl rfl ?_
                  refine gops_nil ?_
                  refine gnext2 (k + 1) (by omega) (⟨by omega, (uCode_next hk1 (by omega) (by rw [prevU, if_pos (by omega)]; omega)).symm.trans hu⟩) ⟨rfl, trivial⟩ ⟨rfl, rfl, rfl, trivial⟩ ⟨_, rfl⟩
          · 
            have hg28d := of_decide_eq_true hg28
            refine gop_off rfl rfl rfl rfl hg28 rfl rfl ?_
            refine gop (y_pick_t (v := .bool _) rfl hg28 rfl) rfl rfl rfl ?_
            refine gops_nil ?_
            refine hN16 _ _ ?_
            refine gfrom [(1, .pointer _), (4, .int _ _), (5, .int _ _), (19, .slice _ _ _), (20, .int _ _), (21, .int _ _), (31, .bool _)] ⟨rfl, rfl, rfl, rfl, rfl, rfl, rfl, trivial⟩ fun σ => ?_
            refine gcond (b := _) rfl (fun hc31 => ?_) (fun hc31 => ?_)
            · 
              refine gseq fun N20 hN20 => ?_
              refine greg ?_
              refine gop (y_assign (v := .int _ _) rfl) rfl rfl rfl ?_
              refine gops_nil ?_
              refine hN20 _ _ ?_
              refine gfrom [(2, .int _ _)] ⟨rfl, trivial⟩ fun σ => ?_
              refine gret fun w1 hM => ?_
              refine ⟨_, res1 rfl (rt (v := .int _ _) rfl), ?_⟩
              exact ⟨by rw [hC, ← hu, uCode_bad hk1 (by omega)], hM.low⟩
            · 
              cases hc31
        · 
          replace hc22 := of_decide_eq_false hc22
          have hE : uCode (-1) us = 0 := by rw [← hu]; exact uCode_end (by omega)
          refine gexit ?_
          refine hN9 _ _ ?_
          refine gfrom [] trivial fun σ => ?_
          refine gseq fun N21 hN21 => ?_
          refine greg ?_
          refine gop (y_assign (v := .int _ _) rfl) rfl rfl rfl ?_
          refine gops_nil ?_
          refine hN21 _ _ ?_
          refine gfrom [(2, .int _ _)] ⟨rfl, trivial⟩ fun σ => ?_
          refine gret fun w1 hM => ?_
          refine ⟨_, res1 rfl (rt (v := .int _ _) rfl), ?_⟩
          exact ⟨by rw [hC, hE], hM.low⟩
set_option maxHeartbeats 2000000 in
theorem ownValidate_any (w : World) (A : Option Addr) (c : Nat) (rs : List RuleC) (hR : RulesR w 0 A c rs) : Calls Tryd.prog 28 #[.slice A rs.length c] w fun e w' => e = .returned (fv (rulesF (rls rs))) ∧ Below w.heap.size w w' := by
  have hln := hR.sb.len
  have hmx := hR.sb.max
  unfold maxLen at hmx
  refine gcalls Tryd.func28 rfl Tryd.ntmps28 (Nat.le_of_ble_eq_true rfl) ?_
  refine gfrom [(0, .slice _ _ _)] ⟨rfl, trivial⟩ fun σ => ?_
  refine gseq fun N1 hN1 => ?_
  refine greg ?_
  refine gop_alloc (cs := #[.int .i64 0, .int .i64 0]) Tryd.zeroValue23 rfl rfl (fun b2 hb2 => ?_)
  refine gops_nil ?_
  refine hN1 _ _ ?_
  refine gT [box b2 _] rfl ?_
  refine gfrom [(0, .slice _ _ _), (2, .pointer _)] ⟨rfl, rfl, trivial⟩ fun σ => ?_
  refine gseq fun N2 hN2 => ?_
  refine gseq fun N3 hN3 => ?_
  refine greg ?_
  refine gop (y_move (v := .slice _ _ _) rfl) rfl rfl rfl ?_
  refine gop (y_len Tryd.underlying29 rfl) rfl rfl rfl ?_
  refine gop (y_gtr rfl rfl) rfl rfl rfl ?_
  refine gops_nil ?_
  refine hN3 _ _ ?_
  refine gfrom [(0, .slice _ _ _), (2, .pointer _), (8, .bool _)] ⟨rfl, rfl, rfl, trivial⟩ fun σ => ?_
  refine gcond (b := _) rfl (fun hc8 => ?_) (fun hc8 => ?_)
  · 
    replace hc8 := of_decide_eq_true hc8
    have hF : rulesF (rls rs) = ⟨2, -1⟩ := by rw [rulesF, if_pos (by simp; omega)]
    refine gseq fun N4 hN4 => ?_
    refine greg ?_
    refine gop (y_build (vs := [(0, _), (1, _)]) (cells := #[_, _]) rfl (bd23_0_1 _ _)) rfl rfl rfl ?_
    refine gop_store 0 (v := .agg #[_, _]) (cs' := #[_, _]) rfl rfl Tryd.sizeOf23 rfl rfl rfl rfl (Nat.le_of_ble_eq_true rfl) rfl rfl ?_
    refine gops_nil ?_
    refine hN4 _ _ ?_
    refine gT [box b2 _] rfl ?_
    refine gfrom [(2, .pointer _)] ⟨rfl, trivial⟩ fun σ => ?_
    refine gret fun w1 hM => ?_
    refine ⟨_, res1 rfl (rc 0 (cs := [_, _]) hM rfl rfl Tryd.isAgg23 Tryd.sizeOf23 rfl), ?_⟩
    exact ⟨by rw [hF], hM.low⟩
  · 
    replace hc8 := of_decide_eq_false hc8
    have hF : rulesF (rls rs) = scan (fun _ r => ruleCode r) (rls rs) := by rw [rulesF, if_neg (by simp; omega)]
    refine gskip ?_
    refine hN2 _ _ ?_
    refine gfrom [(0, .slice _ _ _), (2, .pointer _)] ⟨rfl, rfl, trivial⟩ fun σ => ?_
    refine gseq fun N5 hN5 => ?_
    refine gseq fun N6 hN6 => ?_
    refine greg ?_
    refine gop (y_move (v := .slice _ _ _) rfl) rfl rfl rfl ?_
    refine gop (y_len Tryd.underlying29 rfl) rfl rfl rfl ?_
    refine gop (y_move (v := .int _ _) rfl) rfl rfl rfl ?_
    refine gops_nil ?_
    refine hN6 _ _ ?_
    refine gfrom [(2, .pointer _), (10, .slice _ _ _), (11, .int _ _), (12, .int _ _)] ⟨rfl, rfl, rfl, rfl, trivial⟩ fun σ => ?_
    refine gblock ?_
    refine gfrom2 [(12, .int _ _)] [(2, .pointer _), (10, .slice _ _ _), (11, .int _ _)] ⟨rfl, trivial⟩ ⟨rfl, rfl, rfl, trivial⟩ fun σ => ?_
    refine gloop2 (G := Nat) (fun k => k ≤ rs.length ∧ ∀ j (h : j < rs.length), j < k → ruleCode rs[j].pl = 0) (fun k => rs.length - k) (fun k => [(12, .int .i64 (k : Int))]) (fun k => []) (0) ?h0 ⟨rfl, trivial⟩ ⟨rfl, rfl, rfl, trivial⟩ rfl ?round
    case h0 => exact ⟨Nat.zero_le _, fun _ _ h => absurd h (by omega)⟩
    case round =>
      intro k hφ σ
      obtain ⟨hk, hz⟩ := hφ
      refine gseq fun N7 hN7 => ?_
      refine greg ?_
      refine gop (y_lss rfl rfl) rfl rfl rfl ?_
      refine gops_nil ?_
      refine hN7 _ _ ?_
      refine gfrom [(2, .pointer _), (10, .slice _ _ _), (11, .int _ _), (12, .int _ _), (13, .bool _)] ⟨rfl, rfl, rfl, rfl, rfl, trivial⟩ fun σ => ?_
      refine gseq fun N8 hN8 => ?_
      refine gcond (b := _) rfl (fun hc13 => ?_) (fun hc13 => ?_)
      · 
        replace hc13 := of_decide_eq_true hc13
        have hk1 : k < rs.length := by omega
        obtain ⟨ad, rfl, -, hca⟩ := hR.rd.at_ hk1
        refine gskip ?_
        refine hN8 _ _ ?_
        refine gfrom [(2, .pointer _), (10, .slice _ _ _), (11, .int _ _), (12, .int _ _)] ⟨rfl, rfl, rfl, rfl, trivial⟩ fun σ => ?_
        refine gseq fun N9 hN9 => ?_
        refine gblock ?_
        refine gseq fun N10 hN10 => ?_
        refine greg ?_
        refine gop (y_move (v := .int _ _) rfl) rfl rfl rfl ?_
        refine gop (y_indexAddr (m := k) Tryd.underlying29 Tryd.sizeOf32 rfl rfl (by omega) (by omega) (by omega)) rfl rfl rfl ?_
        refine gop (y_loads (cs := [_, _]) Tryd.isAgg32 Tryd.sizeOf32 rfl rfl (cells_base hca)) rfl rfl rfl ?_
        refine gop_alloc (cs := #[.string .empty, .slice none 0 0]) Tryd.zeroValue32 rfl rfl (fun b4 hb4 => ?_)
        refine gop (y_assign (v := .int _ _) rfl) rfl rfl rfl ?_
        refine gop_store 1 (v := .agg #[_, _]) (cs' := #[_, _]) rfl rfl Tryd.sizeOf32 rfl rfl rfl rfl (Nat.le_of_ble_eq_true rfl) rfl rfl ?_
        refine gops_nil ?_
        refine hN10 _ _ ?_
        refine gT [box b2 _, box b4 _] rfl ?_
        refine gfrom [(2, .pointer _), (3, .int _ _), (4, .pointer _), (10, .slice _ _ _), (11, .int _ _), (12, .int _ _)] ⟨rfl, rfl, rfl, rfl, rfl, rfl, trivial⟩ fun σ => ?_
        refine gseq fun N11 hN11 => ?_
        refine greg ?_
        refine gop (y_loads (cs := [_, _]) Tryd.isAgg32 Tryd.sizeOf32 rfl rfl (cells_box 1 rfl)) rfl rfl rfl ?_
        refine gop_pure (e_call (vs := [.agg #[_, _]]) Tryd.func57 rfl (by kernel_rfl) rfl) (fun w hM => check_any w rs[k].pl.pat rs[k].pl.users rs[k].A rs[k].c (RuleR.lasts.base (hR.each _ (List.getElem_mem hk1)) hM)) rfl rfl rfl ?_
        refine gop (y_assign (v := .int _ _) rfl) rfl rfl rfl ?_
        refine gops_nil ?_
        refine hN11 _ _ ?_
        refine gfrom [(2, .pointer _), (3, .int _ _), (5, .int _ _), (10, .slice _ _ _), (11, .int _ _), (12, .int _ _)] ⟨rfl, rfl, rfl, rfl, rfl, rfl, trivial⟩ fun σ => ?_
        refine gseq fun N12 hN12 => ?_
        refine greg ?_
        refine gop (y_move (v := .int _ _) rfl) rfl rfl rfl ?_
        refine gop (y_neq rfl rfl) rfl rfl rfl ?_
        refine gops_nil ?_
        refine hN12 _ _ ?_
        refine gfrom [(2, .pointer _), (3, .int _ _), (5, .int _ _), (10, .slice _ _ _), (11, .int _ _), (12, .int _ _), (20, .bool _)] ⟨rfl, rfl, rfl, rfl, rfl, rfl, rfl, trivial⟩ fun σ => ?_
        refine gcond (b := _) rfl (fun hc20 => ?_) (fun hc20 => ?_)
        · 
          replace hc20 := of_decide_eq_true hc20
          refine gseq fun N13 hN13 => ?_
          refine greg ?_
          refine gop (y_move (v := .int _ _) rfl) rfl rfl rfl ?_
          refine gop (y_move (v := .int _ _) rfl) rfl rfl rfl ?_
          refine gop (y_build (vs := [(0, .int _ _), (1, .int _ _)]) (cells := #[_, _]) rfl (bd23_0_1 _ _)) rfl rfl rfl ?_
          refine gop_store 0 (v := .agg #[_, _]) (cs' := #[_, _]) rfl rfl Tryd.sizeOf23 rfl rfl rfl rfl (Nat.le_of_ble_eq_true rfl) rfl rfl ?_
          refine gops_nil ?_
          refine hN13 _ _ ?_
          refine gT [box b2 _, box b4 _] rfl ?_
          refine gfrom [(2, .pointer _)] ⟨rfl, trivial⟩ fun σ => ?_
          refine gret fun w1 hM => ?_
          refine ⟨_, res1 rfl (rc 0 (cs := [_, _]) hM rfl rfl Tryd.isAgg23 Tryd.sizeOf23 rfl), ?_⟩
          have hs := scan_at (f := fun _ r => ruleCode r) (l := rls rs) (k := k) (by simpa using hk1) (fun j h hj => by simpa using hz j (by simpa using h) hj) (by simpa using hc20)
          exact ⟨by rw [hF, hs]; simp, hM.low⟩
        · 
          replace hc20 := Decidable.not_not.1 (of_decide_eq_false hc20)
          refine gskip ?_
          refine hN9 _ _ ?_
          refine gfrom [(2, .pointer _), (10, .slice _ _ _), (11, .int _ _), (12, .int _ _)] ⟨rfl, rfl, rfl, rfl, trivial⟩ fun σ => ?_
          refine greg ?_
          refine gop (y_add rfl rfl ⟨by omega, by omega⟩) rfl rfl rfl ?_
          refine gop (y_move (v := .int _ _) rfl) rfl rfl rfl ?_
          refine gops_nil ?_
          refine gnext2 (k + 1) (by omega) (⟨by omega, fun j h hj => by rcases Nat.lt_succ_iff_lt_or_eq.1 hj with h1 | rfl; exact hz j h h1; exact hc20⟩) ⟨rfl, trivial⟩ ⟨rfl, rfl, rfl, trivial⟩ ⟨_, rfl⟩
      · 
        replace hc13 := of_decide_eq_false hc13
        have hF2 : rulesF (rls rs) = ⟨0, 0⟩ := by rw [hF]; exact scan_ok fun j hj => by simpa using hz j (by simpa using hj) (by simp at hj; omega)
        refine gexit ?_
        refine hN5 _ _ ?_
        refine gfrom [(2, .pointer _)] ⟨rfl, trivial⟩ fun σ => ?_
        refine gseq fun N14 hN14 => ?_
        refine greg ?_
        refine gop (y_build (vs := []) (cells := #[.int .i64 0, .int .i64 0]) rfl bd23_) rfl rfl rfl ?_
        refine gop_store 0 (v := .agg #[_, _]) (cs' := #[_, _]) rfl rfl Tryd.sizeOf23 rfl rfl rfl rfl (Nat.le_of_ble_eq_true rfl) rfl rfl ?_
        refine gops_nil ?_
        refine hN14 _ _ ?_
        refine gT [box b2 _] rfl ?_
        refine gfrom [(2, .pointer _)] ⟨rfl, trivial⟩ fun σ => ?_
        refine gret fun w1 hM => ?_
        refine ⟨_, res1 rfl (rc 0 (cs := [_, _]) hM rfl rfl Tryd.isAgg23 Tryd.sizeOf23 rfl), ?_⟩
        exact ⟨by rw [hF2], hM.low⟩
set_option maxHeartbeats 1000000 in
theorem cloneInts_any (w : World) (A : Option Addr) (c : Nat) (l : List Int) (hl : Rdl w 0 1 intCells A l) (hb : l.length * 8 ≤ 140737488355328) (hA : A = none → c = 0) :
    Calls Tryd.prog 73 #[.slice A l.length c] w fun e w' => ∃ v T', e = .returned v ∧ T' = [rowl intCells w.heap.size 3 1 (v) (l)] ∧ Mem w T' w' := by
  refine gcalls Tryd.func73 rfl Tryd.ntmps73 (Nat.le_of_ble_eq_true rfl) ?_
  refine gfrom [(0, .slice _ _ _)] ⟨rfl, trivial⟩ fun σ => ?_
  refine gseq fun N1 hN1 => ?_
  refine greg ?_
  refine gop (y_assign (v := .slice _ _ _) rfl) rfl rfl rfl ?_
  refine gops_nil ?_
  refine hN1 _ _ ?_
  refine gfrom [(0, .slice _ _ _)] ⟨rfl, trivial⟩ fun σ => ?_
  refine gseq fun N2 hN2 => ?_
  refine gseq fun N3 hN3 => ?_
  refine greg ?_
  refine gop (y_move (v := .slice _ _ _) rfl) rfl rfl rfl ?_
  refine gop (y_eqlnil Tryd.underlying30 rfl rfl) rfl rfl rfl ?_
  refine gops_nil ?_
  refine hN3 _ _ ?_
  refine gfrom [(0, .slice _ _ _), (4, .bool _)] ⟨rfl, rfl, trivial⟩ fun σ => ?_
  refine gcond (b := _) rfl (fun hc4 => ?_) (fun hc4 => ?_)
  · 
    obtain rfl : A = none := by simpa using hc4
    obtain rfl : l = [] := by
      cases l with
      | nil => rfl
      | cons x t => obtain ⟨_, h, _⟩ := hl (by simp); cases h
    refine gseq fun N4 hN4 => ?_
    refine greg ?_
    refine gop (y_assign (v := .slice _ _ _) rfl) rfl rfl rfl ?_
    refine gops_nil ?_
    refine hN4 _ _ ?_
    refine gfrom [(2, .slice _ _ _)] ⟨rfl, trivial⟩ fun σ => ?_
    refine gret fun w1 hM => ?_
    refine ⟨_, res1 rfl (rt (v := .slice _ _ _) rfl), ?_⟩
    exact ⟨_, _, rfl, rfl, mem_nilrow intCells _ 1 hM⟩
  · 
    refine gskip ?_
    refine hN2 _ _ ?_
    refine gfrom [(0, .slice _ _ _)] ⟨rfl, trivial⟩ fun σ => ?_
    refine gseq fun N5 hN5 => ?_
    refine greg ?_
    refine gop_bslice0 intCells Tryd.underlying30 Tryd.sizeOf3 rfl (fun b5 hb5 => ?_)
    refine gop (y_move (v := .slice _ _ _) rfl) rfl rfl rfl ?_
    refine gop_append 0 (f := intCells) (l2 := l) Tryd.underlying30 el3 wide_int (v := .slice (some ⟨b5, 0, none⟩) 0 0) rfl rfl rfl rfl hA (by simp [maxLen]; omega) (by simp; omega) (fun w hM => (hl.base hM).src (fun _ => rfl)) rfl (fun v7 => ?_)
    refine gop (y_assign (v := v7) rfl) rfl rfl rfl ?_
    refine gops_nil ?_
    refine hN5 _ _ ?_
    refine gT [rowl _ _ _ _ _ _] rfl ?_
    refine gfrom [(2, v7)] ⟨rfl, trivial⟩ fun σ => ?_
    refine gret fun w1 hM => ?_
    refine ⟨_, res1 rfl (rt (v := v7) rfl), ?_⟩
    exact ⟨_, _, rfl, rfl, hM⟩
end Go.Proofs.YtijpaljdclhehaaDoor
namespace Go.Proofs.YtijpaljdclhehaaDoor
open Go.RowKit Go.Cf
set_option maxRecDepth 10000
set_option maxHeartbeats 2000000 in
theorem back1_iters (w0 : World) (A : Option Addr) (c : Nat) (rs : List RuleC) (hR : RulesR w0 0 A c rs) (b1 : Nat) :
    ItersAt Tryd.prog w0 92 [.pointer (some ⟨b1, 0, none⟩)] (fun x : Int × RuleC => [.int .i64 x.1, ruleV x.2]) (backL rs) [box b1 (.cells #[.slice A rs.length c] 29)] := by
  intro ι W l J Jx hM0 hY
  have hln := hR.sb.len
  have hmx := hR.sb.max
  unfold maxLen at hmx
  refine gcallsI Tryd.func92 rfl Tryd.ntmps92 (Nat.le_of_ble_eq_true rfl) hM0 ?_
  refine gfrom [(0, .func _ _ _), (1, _)] ⟨rfl, rfl, trivial⟩ fun σ => ?_
  refine gseq fun N1 hN1 => ?_
  refine greg ?_
  refine gop (y_load Tryd.isAgg29 rfl (cell_box 1 rfl rfl)) rfl rfl rfl ?_
  refine gop (y_len Tryd.underlying29 rfl) rfl rfl rfl ?_
  refine gop (y_sub rfl rfl ⟨by omega, by omega⟩) rfl rfl rfl ?_
  refine gop (y_assign (v := .int _ _) rfl) rfl rfl rfl ?_
  refine gops_nil ?_
  refine hN1 _ _ ?_
  refine gfrom [(0, .func _ _ _), (1, _), (3, .int _ _)] ⟨rfl, rfl, rfl, trivial⟩ fun σ => ?_
  refine gblock ?_
  refine gfrom2 [(3, .int _ _)] [(0, .func _ _ _), (1, _)] ⟨rfl, trivial⟩ ⟨rfl, rfl, trivial⟩ fun σ => ?_
  refine gloop2 (G := Nat) (fun k => k ≤ rs.length) (fun k => rs.length - k) (fun k => [(3, .int .i64 ((rs.length : Int) - 1 - k))]) (fun k => [(0, J k)]) (0) ?h0 ⟨congrArg (Value.int .i64) (by omega), trivial⟩ ⟨rfl, rfl, trivial⟩ rfl ?round
  case h0 => exact Nat.zero_le _
  case round =>
    intro k hφ σ
    have hk : k ≤ rs.length := hφ
    refine gT [_, box b1 _] rfl ?_
    refine gseq fun N2 hN2 => ?_
    refine gseq fun N3 hN3 => ?_
    refine greg ?_
    refine gop (y_move (v := .int _ _) rfl) rfl rfl rfl ?_
    refine gop (y_geq rfl rfl) rfl rfl rfl ?_
    refine gops_nil ?_
    refine hN3 _ _ ?_
    refine gfrom [(0, .func _ _ _), (1, _), (3, .int _ _), (8, .bool _)] ⟨rfl, rfl, rfl, rfl, trivial⟩ fun σ => ?_
    refine gcond (b := _) rfl (fun hc8 => ?_) (fun hc8 => ?_)
    · 
      replace hc8 := of_decide_eq_true hc8
      have hk1 : k < rs.length := by omega
      obtain ⟨ad, rfl, -, hca⟩ := hR.rd.at_ (show rs.length - 1 - k < rs.length by omega)
      refine gskip ?_
      refine hN2 _ _ ?_
      refine gfrom [(0, .func _ _ _), (1, _), (3, .int _ _)] ⟨rfl, rfl, rfl, trivial⟩ fun σ => ?_
      refine gseq fun N4 hN4 => ?_
      refine gblock ?_
      refine gseq fun N5 hN5 => ?_
      refine greg ?_
      refine gop (y_move (v := .func _ _ _) rfl) rfl rfl rfl ?_
      refine gop (y_move (v := .int _ _) rfl) rfl rfl rfl ?_
      refine gop (y_load Tryd.isAgg29 rfl (cell_box 1 rfl rfl)) rfl rfl rfl ?_
      refine gop (y_move (v := .int _ _) rfl) rfl rfl rfl ?_
      refine gop (y_indexAddr (m := rs.length - 1 - k) Tryd.underlying29 Tryd.sizeOf32 rfl rfl (by omega) (by omega) (by omega)) rfl rfl rfl ?_
      refine gop (y_loads (cs := [_, _]) Tryd.isAgg32 Tryd.sizeOf32 rfl rfl (cells_base hca)) rfl rfl rfl ?_
      refine gop_yield (l := l) (k := k) (J := J) (Jx := Jx) (vs := [.int _ _, .agg #[_, _]]) rfl rfl rfl (fun r W1 hM1 => hY k ((rs.length : Int) - 1 - k, rs[rs.length - 1 - k]) r W1 (backL_at hk1) hM1) rfl (fun bY17 gY17 hY17 => ?_)
      refine gop (y_not rfl) rfl rfl rfl ?_
      refine gops_nil ?_
      refine hN5 _ _ ?_
      refine gT [_, box b1 _] rfl ?_
      refine gfrom [(0, .func _ _ _), (1, _), (3, .int _ _), (18, .bool _)] ⟨rfl, rfl, rfl, rfl, trivial⟩ fun σ => ?_
      refine gcond (b := _) rfl (fun hc18 => ?_) (fun hc18 => ?_)
      · 
        obtain rfl : bY17 = false := by simpa using hc18
        obtain ⟨iY, rfl⟩ : ∃ i, gY17 = Jx k i := hY17
        refine gret fun w1 hM => ?_
        refine ⟨_, res0 rfl, ?_⟩
        exact ⟨⟨_, rfl⟩, .inr ⟨k, iY, by rw [backL_len]; exact hk1, hM.sub (List.singleton_sublist.2 (by simp))⟩⟩
      · 
        obtain rfl : bY17 = true := by simpa using hc18
        obtain rfl : gY17 = J (k + 1) := hY17
        refine gskip ?_
        refine hN4 _ _ ?_
        refine gfrom [(0, .func _ _ _), (1, _), (3, .int _ _)] ⟨rfl, rfl, rfl, trivial⟩ fun σ => ?_
        refine greg ?_
        refine gop (y_move (v := .int _ _) rfl) rfl rfl rfl ?_
        refine gop (y_sub rfl rfl ⟨by omega, by omega⟩) rfl rfl rfl ?_
        refine gop (y_assign (v := .int _ _) rfl) rfl rfl rfl ?_
        refine gops_nil ?_
        refine gnext2 (k + 1) (by omega) (show k + 1 ≤ _ by omega) ⟨congrArg (Value.int .i64) (by omega), trivial⟩ ⟨rfl, rfl, trivial⟩ ⟨_, rfl⟩
    · 
      replace hc8 := of_decide_eq_false hc8
      refine gexit ?_
      intro w1 hM
      refine ⟨_, res0 rfl, ?_⟩
      exact ⟨⟨_, rfl⟩, .inl (by rw [backL_len, show rs.length = k by omega]; exact hM.sub (List.singleton_sublist.2 (by simp)))⟩
set_option maxHeartbeats 1000000 in
theorem back_any (w : World) (A : Option Addr) (n c : Nat) :
    Calls Tryd.prog 72 #[.slice A n c] w fun e w' => ∃ v T', e = .returned v ∧ (∃ b1, v = .func (.func 92) #[] #[.pointer (some ⟨b1, 0, none⟩)] ∧ T' = [box b1 (.cells #[.slice A n c] 29)]) ∧ Mem w T' w' := by
  refine gcalls Tryd.func72 rfl Tryd.ntmps72 (Nat.le_of_ble_eq_true rfl) ?_
  refine gfrom [(0, .slice _ _ _)] ⟨rfl, trivial⟩ fun σ => ?_
  refine gseq fun N1 hN1 => ?_
  refine greg ?_
  refine gop_box (v := .slice _ _ _) (cs := #[_]) rfl rfl rfl (fun b1 hb1 => ?_)
  refine gop (y_assign (v := .nilFunc) rfl) rfl rfl rfl ?_
  refine gops_nil ?_
  refine hN1 _ _ ?_
  refine gT [box b1 _] rfl ?_
  refine gfrom [(1, .pointer _)] ⟨rfl, trivial⟩ fun σ => ?_
  refine gseq fun N2 hN2 => ?_
  refine greg ?_
  refine gop (y_makeFunc (vs := [.pointer (some ⟨b1, 0, none⟩)]) rfl) rfl rfl rfl ?_
  refine gop (y_assign (v := .func (.func 92) #[] #[.pointer (some ⟨b1, 0, none⟩)]) rfl) rfl rfl rfl ?_
  refine gops_nil ?_
  refine hN2 _ _ ?_
  refine gfrom [(2, .func (.func 92) #[] #[.pointer (some ⟨b1, 0, none⟩)])] ⟨rfl, trivial⟩ fun σ => ?_
  refine gret fun w1 hM => ?_
  refine ⟨_, res1 rfl (rt (v := .func (.func 92) #[] #[.pointer (some ⟨b1, 0, none⟩)]) rfl), ?_⟩
  exact ⟨_, _, rfl, ⟨_, rfl, rfl⟩, hM⟩
set_option maxHeartbeats 2000000 in
theorem find_any (w : World) (A : Option Addr) (c : Nat) (rs : List RuleC) (hR : RulesR w 0 A c rs) (path : ByteArray) (hps : ∀ a ∈ rs, a.pl.pat.size ≤ 4000000) (hs : path.size ≤ 4000000) (hus : ∀ a ∈ rs, a.pl.users.length ≤ 1000000) :
    Calls Tryd.prog 49 #[.slice A rs.length c, .string path] w fun e w' => ∃ v T', e = .returned v ∧ T' = [rowl intCells w.heap.size 3 1 (v) (findU (rls rs) path)] ∧ Mem w T' w' := by
  have hln := hR.sb.len
  have hmx := hR.sb.max
  unfold maxLen at hmx
  refine gcalls Tryd.func49 rfl Tryd.ntmps49 (Nat.le_of_ble_eq_true rfl) ?_
  refine gfrom [(0, .slice _ _ _), (1, .string _)] ⟨rfl, rfl, trivial⟩ fun σ => ?_
  refine gseq fun N1 hN1 => ?_
  refine greg ?_
  refine gop_box (v := .string _) (cs := #[_]) rfl rfl rfl (fun b3 hb3 => ?_)
  refine gop_alloc (cs := #[.slice none 0 0]) Tryd.zeroValue30 rfl rfl (fun b4 hb4 => ?_)
  refine gops_nil ?_
  refine hN1 _ _ ?_
  refine gT [box b3 _, box b4 _] rfl ?_
  refine gfrom [(0, .slice _ _ _), (3, .pointer _), (4, .pointer _)] ⟨rfl, rfl, rfl, trivial⟩ fun σ => ?_
  refine gseqAB fun N2 hN2 => ?_
  refine greg ?_
  refine gop (y_move (v := .slice _ _ _) rfl) rfl rfl rfl ?_
  refine gop_got (fun v T' => ∃ c1, v = .func (.func 92) #[] #[.pointer (some ⟨c1, 0, none⟩)] ∧ T' = [box c1 (.cells #[.slice A rs.length c] 29)]) (e_call (vs := [.slice _ _ _]) Tryd.func72 rfl (by kernel_rfl) rfl) (fun w hM => back_any w A rs.length c) rfl rfl rfl ?_
  rintro _ _ ⟨c1, rfl, rfl⟩
  refine gops_nil ?_
  refine hN2 _ _ ?_
  refine gthen_T [box b3 _, box b4 _, box c1 _] rfl ?_
  refine gthen_from [(3, .pointer _), (4, .pointer _), (8, .func _ _ _)] ⟨rfl, rfl, rfl, trivial⟩ fun σ => ?_
  refine grange (lb := [.pointer (some ⟨c1, 0, none⟩)]) (ps := [9, 10]) (xs := backL rs) (fun k => [sure (∀ j (h : j < rs.length), rs.length - k ≤ j → matchR path rs[j].pl = false), box b3 (.cells #[.string path] 9), box b4 (.cells #[.slice none 0 0] 30)]) (fun _ (i : Value) => [box b4 (.cells #[i] 30), rowl intCells w.heap.size 3 1 (i) (findU (rls rs) path)]) rfl (e_enter Tryd.func92 rfl (by kernel_rfl)) (back1_iters _ A c rs hR c1) (fun w hM => hM.sure (fun j h hj => absurd hj (by omega))) (by decide) (fun _ => rfl) ?round ?done ?stop
  case round =>
    intro lR k x q hx NR hNR
    obtain ⟨xi, xr⟩ := x
    obtain ⟨hk1, hk2, hxr⟩ := backL_inv hx
    obtain rfl : xr = rs[rs.length - 1 - k] := hxr
    have hRk := hR.each _ (List.getElem_mem hk2)
    refine g_fact (fun w hM => hM.known 1 rfl) ?_
    intro hJ
    refine gfrom [(3, .pointer _), (4, .pointer _), (8, .func _ _ _), (10, .agg #[_, _])] ⟨rfl, rfl, rfl, rfl, trivial⟩ fun σ => ?_
    refine greg ?_
    refine gop_alloc (cs := #[.string .empty, .slice none 0 0]) Tryd.zeroValue32 rfl rfl (fun b6 hb6 => ?_)
    refine gop_store 4 (v := .agg #[_, _]) (cs' := #[_, _]) rfl rfl Tryd.sizeOf32 rfl rfl rfl rfl (Nat.le_of_ble_eq_true rfl) rfl rfl ?_
    refine gops_nil ?_
    refine hNR _ _ fun q2 => ?_
    refine gfrom [(3, .pointer _), (4, .pointer _), (6, .pointer _), (8, .func _ _ _)] ⟨rfl, rfl, rfl, rfl, trivial⟩ fun σ => ?_
    refine gblock ?_
    refine gseq fun N3 hN3 => ?_
    refine greg ?_
    refine gop (y_fieldAddr_box fa32_0 rfl) rfl rfl rfl ?_
    refine gop (y_load Tryd.isAgg9 rfl (cell_box 4 rfl rfl)) rfl rfl rfl ?_
    refine gop (y_load Tryd.isAgg9 rfl (cell_box 2 rfl rfl)) rfl rfl rfl ?_
    refine gop_pure (e_call (vs := [.string _, .string _]) Tryd.func43 rfl (by kernel_rfl) rfl) (fun w hM => matches_any w _ _ (hps _ (List.getElem_mem hk2)) hs) rfl rfl rfl ?_
    refine gops_nil ?_
    refine hN3 _ _ ?_
    refine gT [_, sure _, box b3 _, box b4 _, box b6 _] rfl ?_
    refine gfrom [(3, .pointer _), (4, .pointer _), (6, .pointer _), (8, .func _ _ _), (14, .bool _)] ⟨rfl, rfl, rfl, rfl, rfl, trivial⟩ fun σ => ?_
    refine gcond (b := _) rfl (fun hc14 => ?_) (fun hc14 => ?_)
    · 
      refine gseq fun N4 hN4 => ?_
      refine greg ?_
      refine gop (y_fieldAddr_box fa32_1 rfl) rfl rfl rfl ?_
      refine gop (y_load Tryd.isAgg30 rfl (cell_box 4 rfl rfl)) rfl rfl rfl ?_
      refine gop_got (fun v T' => ∃ lo, w.heap.size ≤ lo ∧ T' = [rowl intCells lo 3 1 (v) (rs[rs.length - 1 - k].pl.users)]) (e_call (vs := [.slice _ _ _]) Tryd.func73 rfl (by kernel_rfl) rfl) (fun w hM => (cloneInts_any w _ _ _ (hRk.rd.base hM) (by have h0 := hus _ (List.getElem_mem hk2); omega) hRk.sb.nil).mono fun _ _ ⟨v, T1, h1, h2, h3⟩ => ⟨v, T1, h1, ⟨_, hM.low.size, h2⟩, h3⟩) rfl rfl rfl ?_
      rintro v17 _ ⟨lo17, hlo17, rfl⟩
      refine gops_fact (fun w hM => row_form (hM.ok _ (List.mem_of_getElem? (i := 5) rfl))) ?_
      rintro ⟨A17, c17, rfl, hc17, hm17, hn17⟩
      refine gops_mem _ (weak_lower 5 rfl hlo17) ?_
      refine gop_store 3 (v := .slice A17 _ c17) (cs' := #[_]) rfl rfl Tryd.sizeOf30 rfl rfl rfl rfl (Nat.le_of_ble_eq_true rfl) rfl rfl ?_
      refine gops_nil ?_
      refine hN4 _ _ ?_
      refine gT [_, sure _, box b3 _, box b4 _, box b6 _, rowl _ _ _ _ _ _] rfl ?_
      refine gfrom [(4, .pointer _)] ⟨rfl, trivial⟩ fun σ => ?_
      refine gret fun w1 hM => ?_
      refine ⟨.slice A17 (rs[rs.length - 1 - k].pl.users.length) c17, ?_⟩
      rw [findU_hit hk2 hc14 (fun j h hj => hJ j h (by omega))]
      exact hM.sub (.cons_cons _ (.cons _ (.cons _ (.cons_cons _ (.cons _ (.cons_cons _ .slnil))))))
    · 
      refine gskip ?_
      intro w1 hM
      have hJ2 : ∀ j (h : j < rs.length), rs.length - (k + 1) ≤ j → matchR path rs[j].pl = false := by
        intro j h hj
        rcases Nat.lt_or_ge j (rs.length - k) with h1 | h1
        · obtain rfl : j = rs.length - 1 - k := by omega
          exact hc14
        · exact hJ j h h1
      exact (hM.resure 1 rfl hJ2).sub (.cons_cons _ (.cons_cons _ (.cons_cons _ (.cons_cons _ (.cons _ .slnil)))))
  case done =>
    intro D qD
    refine gfrom [(4, .pointer _)] ⟨rfl, trivial⟩ fun σ => ?_
    refine g_fact (fun w hM => hM.known 2 rfl) ?_
    intro hJ
    have hz : findU (rls rs) path = [] := findU_none (fun j h => hJ j h (by rw [backL_len]; omega))
    refine gseq fun N5 hN5 => ?_
    refine greg ?_
    refine gop_store 4 (v := .slice _ _ _) (cs' := #[_]) rfl rfl Tryd.sizeOf30 rfl rfl rfl rfl (Nat.le_of_ble_eq_true rfl) rfl rfl ?_
    refine gops_nil ?_
    refine hN5 _ _ ?_
    refine gT [_, _, sure _, box b3 _, box b4 _] rfl ?_
    refine gfrom [(4, .pointer _)] ⟨rfl, trivial⟩ fun σ => ?_
    refine gret (fin_marked 0 rfl rfl fun w1 hM => ?_)
    refine ⟨_, res1 rfl (rc1 4 hM rfl rfl Tryd.isAgg30), ?_⟩
    exact ⟨_, _, rfl, by rw [hz]; rfl, (mem_nilrow intCells 3 1 hM).dropTo 5 rfl⟩
  case stop =>
    rintro D qD k i hk w1 hM
    refine ⟨_, res1 rfl (rc1 2 hM rfl rfl Tryd.isAgg30), ?_⟩
    exact ⟨_, _, rfl, rfl, hM.dropTo 3 rfl⟩
end Go.Proofs.YtijpaljdclhehaaDoor
namespace Go.Proofs.YtijpaljdclhehaaDoor
open Go.RowKit Go.Cf
set_option maxRecDepth 10000
set_option maxHeartbeats 2000000 in
theorem of_any (w : World) (A : Option Addr) (c : Nat) (rs : List RuleC) (hR : RulesR w 0 A c rs) (path : ByteArray) :
    Calls Tryd.prog 18 #[.slice A rs.length c, .string path] w fun e w' => ∃ v T', e = .returned (.tuple #[v, fv (ofF (rls rs) path)]) ∧ T' = [rowl intCells w.heap.size 3 1 (v) (ofV (rls rs) path)] ∧ Mem w T' w' := by
  refine gcalls Tryd.func18 rfl Tryd.ntmps18 (Nat.le_of_ble_eq_true rfl) ?_
  refine gfrom [(0, .slice _ _ _), (1, .string _)] ⟨rfl, rfl, trivial⟩ fun σ => ?_
  refine gseq fun N1 hN1 => ?_
  refine greg ?_
  refine gop (y_assign (v := .slice _ _ _) rfl) rfl rfl rfl ?_
  refine gop_alloc (cs := #[.int .i64 0, .int .i64 0]) Tryd.zeroValue23 rfl rfl (fun b5 hb5 => ?_)
  refine gops_nil ?_
  refine hN1 _ _ ?_
  refine gT [box b5 _] rfl ?_
  refine gfrom [(0, .slice _ _ _), (1, .string _), (5, .pointer _)] ⟨rfl, rfl, rfl, trivial⟩ fun σ => ?_
  refine gseq fun N2 hN2 => ?_
  refine gseq fun N3 hN3 => ?_
  refine greg ?_
  refine gop (y_move (v := .slice _ _ _) rfl) rfl rfl rfl ?_
  refine gop_pure (e_call (vs := [.slice _ _ _]) Tryd.func28 rfl (by kernel_rfl) rfl) (fun w hM => ownValidate_any w A c rs (RulesR.lasts.base hR hM)) rfl rfl rfl ?_
  refine gop_alloc (cs := #[.int .i64 0, .int .i64 0]) Tryd.zeroValue23 rfl rfl (fun b6 hb6 => ?_)
  refine gop_store 1 (v := .agg #[_, _]) (cs' := #[_, _]) rfl rfl Tryd.sizeOf23 rfl rfl rfl rfl (Nat.le_of_ble_eq_true rfl) rfl rfl ?_
  refine gops_nil ?_
  refine hN3 _ _ ?_
  refine gT [box b5 _, box b6 _] rfl ?_
  refine gfrom [(0, .slice _ _ _), (1, .string _), (5, .pointer _), (6, .pointer _)] ⟨rfl, rfl, rfl, rfl, trivial⟩ fun σ => ?_
  refine gseq fun N4 hN4 => ?_
  refine greg ?_
  refine gop (y_loads (cs := [_, _]) Tryd.isAgg23 Tryd.sizeOf23 rfl rfl (cells_box 1 rfl)) rfl rfl rfl ?_
  refine gop (y_build (vs := []) (cells := #[.int .i64 0, .int .i64 0]) rfl bd23_) rfl rfl rfl ?_
  refine gop (y_bin (vx := .agg #[_, _]) (vy := .agg #[_, _]) rfl rfl (fun w => eg23 _ _ _ _ _ w) (fun w => ne23 _ _ _ _ w)) rfl rfl rfl ?_
  refine gops_nil ?_
  refine hN4 _ _ ?_
  refine gfrom [(0, .slice _ _ _), (1, .string _), (5, .pointer _), (6, .pointer _), (11, .bool _)] ⟨rfl, rfl, rfl, rfl, rfl, trivial⟩ fun σ => ?_
  refine gcond (b := _) rfl (fun hc11 => ?_) (fun hc11 => ?_)
  · 
    replace hc11 := fault_ne.1 hc11
    have hV : ofV (rls rs) path = [] := by rw [ofV, if_neg (fun h => hc11 h.1)]
    refine gseq fun N5 hN5 => ?_
    refine greg_e1 [] [(0, room b5 23 2)] (by kernel_rfl) ?_
    refine ge_take 0 (TK := [room b5 23 2, box b6 _]) rfl (by kernel_rfl) (by kernel_rfl) (by kernel_rfl) #[false, true, false] (by kernel_rfl) rfl (y_loads (cs := [_, _]) Tryd.isAgg23 Tryd.sizeOf23 rfl rfl (cells_box 1 rfl)) rfl rfl rfl (weak_room 0 rfl rfl) (listed' := #[true, false, false]) rfl ?_
    refine ge_take 1 (TK := [room b5 23 2, box b6 _]) rfl (by kernel_rfl) (by kernel_rfl) (by kernel_rfl) #[true, false, false] (by kernel_rfl) rfl (y_assign (v := .slice _ _ _) rfl) rfl rfl rfl (weak_room 0 rfl rfl) (listed' := #[true, true, false]) rfl ?_
    refine ge_one 2 (k' := 0) (listed' := #[true, true, true]) (by kernel_rfl) rfl rfl rfl ?_
    refine gop_store 0 (v := .agg #[_, _]) (cs' := #[_, _]) rfl rfl Tryd.sizeOf23 rfl rfl rfl rfl (Nat.le_of_ble_eq_true rfl) rfl rfl ?_
    refine gops_nil ?_
    refine ge_fin (TK := [room b5 23 2, box b6 _]) rfl (weak_room 0 rfl rfl) ?_
    refine ge_done (by kernel_rfl) ?_
    refine hN5 _ _ ?_
    refine gT [box b5 _, box b6 _] rfl ?_
    refine gfrom [(4, .slice _ _ _), (5, .pointer _)] ⟨rfl, rfl, trivial⟩ fun σ => ?_
    refine gret fun w1 hM => ?_
    refine ⟨_, res2 rfl (rt (v := .slice _ _ _) rfl) (rc 0 (cs := [_, _]) hM rfl rfl Tryd.isAgg23 Tryd.sizeOf23 rfl), ?_⟩
    exact ⟨_, _, by rw [ofF, if_pos hc11], by rw [hV]; rfl, (mem_nilrow intCells _ 1 hM).dropTo 2 rfl⟩
  · 
    replace hc11 := fault_eq.1 hc11
    refine gskip ?_
    refine hN2 _ _ ?_
    refine gfrom [(0, .slice _ _ _), (1, .string _), (5, .pointer _)] ⟨rfl, rfl, rfl, trivial⟩ fun σ => ?_
    refine gseq fun N6 hN6 => ?_
    refine gseq fun N7 hN7 => ?_
    refine greg ?_
    refine gop (y_move (v := .string _) rfl) rfl rfl rfl ?_
    refine gop_pure (e_call (vs := [.string _]) Tryd.func42 rfl (by kernel_rfl) rfl) (fun w hM => validPath_any w _) rfl rfl rfl ?_
    refine gop (y_not rfl) rfl rfl rfl ?_
    refine gops_nil ?_
    refine hN7 _ _ ?_
    refine gfrom [(0, .slice _ _ _), (1, .string _), (5, .pointer _), (15, .bool _)] ⟨rfl, rfl, rfl, rfl, trivial⟩ fun σ => ?_
    refine gcond (b := _) rfl (fun hc15 => ?_) (fun hc15 => ?_)
    · 
      replace hc15 := not_t hc15
      have hV : ofV (rls rs) path = [] := by rw [ofV, if_neg (fun h => absurd h.2 (by simp [hc15]))]
      refine gseq fun N8 hN8 => ?_
      refine greg ?_
      refine gop (y_build (vs := [(0, _), (1, _)]) (cells := #[_, _]) rfl (bd23_0_1 _ _)) rfl rfl rfl ?_
      refine gop (y_assign (v := .slice _ _ _) rfl) rfl rfl rfl ?_
      refine gop_store 0 (v := .agg #[_, _]) (cs' := #[_, _]) rfl rfl Tryd.sizeOf23 rfl rfl rfl rfl (Nat.le_of_ble_eq_true rfl) rfl rfl ?_
      refine gops_nil ?_
      refine hN8 _ _ ?_
      refine gT [box b5 _, box b6 _] rfl ?_
      refine gfrom [(4, .slice _ _ _), (5, .pointer _)] ⟨rfl, rfl, trivial⟩ fun σ => ?_
      refine gret fun w1 hM => ?_
      refine ⟨_, res2 rfl (rt (v := .slice _ _ _) rfl) (rc 0 (cs := [_, _]) hM rfl rfl Tryd.isAgg23 Tryd.sizeOf23 rfl), ?_⟩
      exact ⟨_, _, by rw [ofF, if_neg (fun h => h hc11), hc15]; rfl, by rw [hV]; rfl, (mem_nilrow intCells _ 1 hM).dropTo 2 rfl⟩
    · 
      replace hc15 := not_f hc15
      have hpk : pathOk path = true := hc15
      refine gskip ?_
      refine hN6 _ _ ?_
      refine gfrom [(0, .slice _ _ _), (1, .string _), (5, .pointer _)] ⟨rfl, rfl, rfl, trivial⟩ fun σ => ?_
      refine gseq fun N9 hN9 => ?_
      refine greg ?_
      refine gop (y_move (v := .slice _ _ _) rfl) rfl rfl rfl ?_
      refine gop (y_move (v := .string _) rfl) rfl rfl rfl ?_
      refine gop_got (fun v T' => ∃ lo, w.heap.size ≤ lo ∧ T' = [rowl intCells lo 3 1 (v) (findU (rls rs) path)]) (e_call (vs := [.slice _ _ _, .string _]) Tryd.func49 rfl (by kernel_rfl) rfl) (fun w hM => (find_any w A c rs (RulesR.lasts.base hR hM) path (fun a ha => Nat.le_trans (patFault_size (ruleCode_zero (rulesF_each hc11 a.pl (List.mem_map.2 ⟨a, ha, rfl⟩))).1) (by decide)) (Nat.le_trans (pathOk_size hpk) (by decide)) (fun a ha => Nat.le_trans (ruleCode_zero (rulesF_each hc11 a.pl (List.mem_map.2 ⟨a, ha, rfl⟩))).2.1 (by decide))).mono fun _ _ ⟨v, T1, h1, h2, h3⟩ => ⟨v, T1, h1, ⟨_, hM.low.size, h2⟩, h3⟩) rfl rfl rfl ?_
      rintro v19 _ ⟨lo19, hlo19, rfl⟩
      refine gops_fact (fun w hM => row_form (hM.ok _ (List.mem_of_getElem? (i := 2) rfl))) ?_
      rintro ⟨A19, c19, rfl, hc19, hm19, hn19⟩
      refine gops_mem _ (weak_lower 2 rfl hlo19) ?_
      refine gop (y_build (vs := []) (cells := #[.int .i64 0, .int .i64 0]) rfl bd23_) rfl rfl rfl ?_
      refine gop (y_assign (v := .slice A19 _ c19) rfl) rfl rfl rfl ?_
      refine gop_store 0 (v := .agg #[_, _]) (cs' := #[_, _]) rfl rfl Tryd.sizeOf23 rfl rfl rfl rfl (Nat.le_of_ble_eq_true rfl) rfl rfl ?_
      refine gops_nil ?_
      refine hN9 _ _ ?_
      refine gT [box b5 _, box b6 _, rowl _ _ _ _ _ _] rfl ?_
      refine gfrom [(4, .slice A19 _ c19), (5, .pointer _)] ⟨rfl, rfl, trivial⟩ fun σ => ?_
      refine gret fun w1 hM => ?_
      refine ⟨_, res2 rfl (rt (v := .slice A19 _ c19) rfl) (rc 0 (cs := [_, _]) hM rfl rfl Tryd.isAgg23 Tryd.sizeOf23 rfl), ?_⟩
      exact ⟨_, _, by rw [ofF, if_neg (fun h => h hc11), hpk]; rfl, by rw [ofV, if_pos ⟨hc11, hpk⟩]; rfl, hM.dropTo 2 rfl⟩
set_option maxHeartbeats 1000000 in
theorem sameInts_any (w : World) (A B : Option Addr) (c c' : Nat) (l m : List Int) (hA : Rdl w 0 1 intCells A l) (hB : Rdl w 0 1 intCells B m) (hl : l.length ≤ maxLen) :
    Calls Tryd.prog 20 #[.slice A l.length c, .slice B m.length c'] w fun e w' => e = .returned (.bool (decide (l = m))) ∧ Below w.heap.size w w' := by
  unfold maxLen at hl
  refine gcalls Tryd.func20 rfl Tryd.ntmps20 (Nat.le_of_ble_eq_true rfl) ?_
  refine gfrom [(0, .slice _ _ _), (1, .slice _ _ _)] ⟨rfl, rfl, trivial⟩ fun σ => ?_
  refine gseq fun N1 hN1 => ?_
  refine greg ?_
  refine gop (y_assign (v := .bool _) rfl) rfl rfl rfl ?_
  refine gops_nil ?_
  refine hN1 _ _ ?_
  refine gfrom [(0, .slice _ _ _), (1, .slice _ _ _)] ⟨rfl, rfl, trivial⟩ fun σ => ?_
  refine gseq fun N2 hN2 => ?_
  refine gseq fun N3 hN3 => ?_
  refine greg ?_
  refine gop (y_move (v := .slice _ _ _) rfl) rfl rfl rfl ?_
  refine gop (y_len Tryd.underlying30 rfl) rfl rfl rfl ?_
  refine gop (y_move (v := .slice _ _ _) rfl) rfl rfl rfl ?_
  refine gop (y_len Tryd.underlying30 rfl) rfl rfl rfl ?_
  refine gop (y_neq rfl rfl) rfl rfl rfl ?_
  refine gops_nil ?_
  refine hN3 _ _ ?_
  refine gfrom [(0, .slice _ _ _), (1, .slice _ _ _), (10, .bool _)] ⟨rfl, rfl, rfl, trivial⟩ fun σ => ?_
  refine gcond (b := _) rfl (fun hc10 => ?_) (fun hc10 => ?_)
  · 
    replace hc10 := of_decide_eq_true hc10
    refine gseq fun N4 hN4 => ?_
    refine greg ?_
    refine gop (y_assign (v := .bool _) rfl) rfl rfl rfl ?_
    refine gops_nil ?_
    refine hN4 _ _ ?_
    refine gfrom [(4, .bool _)] ⟨rfl, trivial⟩ fun σ => ?_
    refine gret fun w1 hM => ?_
    refine ⟨_, res1 rfl (rt (v := .bool _) rfl), ?_⟩
    exact ⟨by rw [decide_eq_false (fun e => by subst e; omega)], hM.low⟩
  · 
    replace hc10 := Decidable.not_not.1 (of_decide_eq_false hc10)
    refine gskip ?_
    refine hN2 _ _ ?_
    refine gfrom [(0, .slice _ _ _), (1, .slice _ _ _)] ⟨rfl, rfl, trivial⟩ fun σ => ?_
    refine gseq fun N5 hN5 => ?_
    refine gseq fun N6 hN6 => ?_
    refine greg ?_
    refine gop (y_assign (v := .int _ _) rfl) rfl rfl rfl ?_
    refine gops_nil ?_
    refine hN6 _ _ ?_
    refine gfrom [(0, .slice _ _ _), (1, .slice _ _ _), (5, .int _ _)] ⟨rfl, rfl, rfl, trivial⟩ fun σ => ?_
    refine gblock ?_
    refine gfrom2 [(5, .int _ _)] [(0, .slice _ _ _), (1, .slice _ _ _)] ⟨rfl, trivial⟩ ⟨rfl, rfl, trivial⟩ fun σ => ?_
    refine gloop2 (G := Nat) (fun k => k ≤ l.length ∧ l.length = m.length ∧ l.take k = m.take k) (fun k => l.length - k) (fun k => [(5, .int .i64 (k : Int))]) (fun k => []) (0) ?h0 ⟨rfl, trivial⟩ ⟨rfl, rfl, trivial⟩ rfl ?round
    case h0 => exact ⟨Nat.zero_le _, by omega, by simp⟩
    case round =>
      intro k hφ σ
      obtain ⟨hk, hlm, htk⟩ := hφ
      refine gseq fun N7 hN7 => ?_
      refine gseq fun N8 hN8 => ?_
      refine greg ?_
      refine gop (y_move (v := .int _ _) rfl) rfl rfl rfl ?_
      refine gop (y_move (v := .slice _ _ _) rfl) rfl rfl rfl ?_
      refine gop (y_len Tryd.underlying30 rfl) rfl rfl rfl ?_
      refine gop (y_lss rfl rfl) rfl rfl rfl ?_
      refine gops_nil ?_
      refine hN8 _ _ ?_
      refine gfrom [(0, .slice _ _ _), (1, .slice _ _ _), (5, .int _ _), (14, .bool _)] ⟨rfl, rfl, rfl, rfl, trivial⟩ fun σ => ?_
      refine gcond (b := _) rfl (fun hc14 => ?_) (fun hc14 => ?_)
      · 
        replace hc14 := of_decide_eq_true hc14
        have hk1 : k < l.length := by omega
        obtain ⟨ad, rfl, -, hca⟩ := hA.at_ hk1
        obtain ⟨ad', rfl, -, hcb⟩ := hB.at_ (k := k) (by omega)
        refine gskip ?_
        refine hN7 _ _ ?_
        refine gfrom [(0, .slice _ _ _), (1, .slice _ _ _), (5, .int _ _)] ⟨rfl, rfl, rfl, trivial⟩ fun σ => ?_
        refine gseq fun N9 hN9 => ?_
        refine gblock ?_
        refine gseq fun N10 hN10 => ?_
        refine greg_q (by kernel_rfl) (by kernel_rfl) ?_
        refine gq (y_move (v := .slice _ _ _) rfl) rfl rfl rfl ?_
        refine gq (y_move (v := .int _ _) rfl) rfl rfl rfl ?_
        refine gq (y_indexAddr Tryd.underlying30 Tryd.sizeOf3 rfl rfl rfl (by omega) (by omega)) rfl rfl rfl ?_
        refine gq (y_load Tryd.isAgg3 rfl (cell_base (hca 0 _ rfl))) rfl rfl rfl ?_
        refine gq (y_move (v := .slice _ _ _) rfl) rfl rfl rfl ?_
        refine gq (y_move (v := .int _ _) rfl) rfl rfl rfl ?_
        refine gq (y_indexAddr Tryd.underlying30 Tryd.sizeOf3 rfl rfl rfl (by omega) (by omega)) rfl rfl rfl ?_
        refine gq (y_load Tryd.isAgg3 rfl (cell_base (hcb 0 _ rfl))) rfl rfl rfl ?_
        refine gq (y_neq rfl rfl) rfl rfl rfl ?_
        refine gqs_nil ?_
        refine hN10 _ _ ?_
        refine gfrom [(0, .slice _ _ _), (1, .slice _ _ _), (5, .int _ _), (25, .bool _)] ⟨rfl, rfl, rfl, rfl, trivial⟩ fun σ => ?_
        refine gcond (b := _) rfl (fun hc25 => ?_) (fun hc25 => ?_)
        · 
          replace hc25 := of_decide_eq_true hc25
          refine gseq fun N11 hN11 => ?_
          refine greg ?_
          refine gop (y_assign (v := .bool _) rfl) rfl rfl rfl ?_
          refine gops_nil ?_
          refine hN11 _ _ ?_
          refine gfrom [(4, .bool _)] ⟨rfl, trivial⟩ fun σ => ?_
          refine gret fun w1 hM => ?_
          refine ⟨_, res1 rfl (rt (v := .bool _) rfl), ?_⟩
          exact ⟨by rw [decide_eq_false (ne_of_at hk1 (by omega) hc25)], hM.low⟩
        · 
          replace hc25 := Decidable.not_not.1 (of_decide_eq_false hc25)
          refine gskip ?_
          refine hN9 _ _ ?_
          refine gfrom [(0, .slice _ _ _), (1, .slice _ _ _), (5, .int _ _)] ⟨rfl, rfl, rfl, trivial⟩ fun σ => ?_
          refine greg ?_
          refine gop (y_move (v := .int _ _) rfl) rfl rfl rfl ?_
          refine gop (y_add rfl rfl ⟨by omega, by omega⟩) rfl rfl rfl ?_
          refine gop (y_assign (v := .int _ _) rfl) rfl rfl rfl ?_
          refine gops_nil ?_
          refine gnext2 (k + 1) (by omega) (⟨by omega, hlm, take_next l m k (by omega) (by omega) htk hc25⟩) ⟨rfl, trivial⟩ ⟨rfl, rfl, trivial⟩ ⟨_, rfl⟩
      · 
        replace hc14 := of_decide_eq_false hc14
        refine gexit ?_
        refine hN5 _ _ ?_
        refine gfrom [] trivial fun σ => ?_
        refine gseq fun N12 hN12 => ?_
        refine greg ?_
        refine gop (y_assign (v := .bool _) rfl) rfl rfl rfl ?_
        refine gops_nil ?_
        refine hN12 _ _ ?_
        refine gfrom [(4, .bool _)] ⟨rfl, trivial⟩ fun σ => ?_
        refine gret fun w1 hM => ?_
        refine ⟨_, res1 rfl (rt (v := .bool _) rfl), ?_⟩
        exact ⟨by rw [decide_eq_true (eq_of_takes hlm (by omega) htk)], hM.low⟩
end Go.Proofs.YtijpaljdclhehaaDoor
namespace Go.Proofs.YtijpaljdclhehaaDoor
open Go.RowKit Go.Cf
set_option maxRecDepth 10000
theorem bd32_0 (x1 : ByteArray) : Tryd.prog.built 32 [(0, .string x1)] = some #[.string x1, .slice none 0 0] := by kernel_rfl
set_option maxHeartbeats 2000000 in
theorem parse_any (w : World) (line : ByteArray) (hs : line.size ≤ 4000000) :
    Calls Tryd.prog 50 #[.string line] w fun e w' => ∃ A c T', e = .returned (.tuple #[.agg #[.string (lineR line).pat, .slice A (lineR line).users.length c], .int .i64 (lineC line)]) ∧ T' = [rowl intCells w.heap.size 3 1 (.slice A (lineR line).users.length c) ((lineR line).users)] ∧ Mem w T' w' := by
  have hpos := cutB_pos line
  have hcl := cutB_len line
  refine gcalls Tryd.func50 rfl Tryd.ntmps50 (Nat.le_of_ble_eq_true rfl) ?_
  refine gfrom [(0, .string _)] ⟨rfl, trivial⟩ fun σ => ?_
  refine gseq fun N1 hN1 => ?_
  refine greg ?_
  refine gop_alloc (cs := #[.string .empty, .slice none 0 0]) Tryd.zeroValue32 rfl rfl (fun b2 hb2 => ?_)
  refine gop (y_assign (v := .int _ _) rfl) rfl rfl rfl ?_
  refine gops_nil ?_
  refine hN1 _ _ ?_
  refine gT [box b2 _] rfl ?_
  refine gfrom [(0, .string _), (2, .pointer _)] ⟨rfl, rfl, trivial⟩ fun σ => ?_
  refine gseq fun N2 hN2 => ?_
  refine greg ?_
  refine gop (y_move (v := .string _) rfl) rfl rfl rfl ?_
  refine gop_got (fun v T' => ∃ lo, w.heap.size ≤ lo ∧ T' = [rowl strCells lo 9 1 v (cutB line)]) (e_call (vs := [.string _, _]) Tryd.func44 rfl (by kernel_rfl) rfl) (fun w hM => (split_anyB w line hs).mono fun _ _ ⟨v, T1, h1, h2, h3⟩ => ⟨v, T1, h1, ⟨_, hM.low.size, h2⟩, h3⟩) rfl rfl rfl ?_
  rintro v9 _ ⟨lo9, hlo9, rfl⟩
  refine gops_fact (fun w hM => row_form (hM.ok _ (List.mem_of_getElem? (i := 1) rfl))) ?_
  rintro ⟨A9, c9, rfl, hc9, hm9, hn9⟩
  refine gops_fact (fun w hM => own_some (hM.own 1 rfl) (cutB_pos line)) ?_
  rintro ⟨rg1, cg1, hvg, -, -⟩
  simp only [Value.slice.injEq] at hvg
  obtain ⟨rfl, -, rfl⟩ := hvg
  refine gop (y_assign (v := .slice (some ⟨rg1, 0, none⟩) _ _) rfl) rfl rfl rfl ?_
  refine gops_nil ?_
  refine hN2 _ _ ?_
  refine gT [box b2 _, rowl _ _ _ _ _ _] rfl ?_
  refine gfrom [(2, .pointer _), (4, .slice (some ⟨rg1, 0, none⟩) _ _)] ⟨rfl, rfl, trivial⟩ fun σ => ?_
  refine gseq fun N3 hN3 => ?_
  refine greg ?_
  refine gop (y_move (v := .slice (some ⟨rg1, 0, none⟩) _ _) rfl) rfl rfl rfl ?_
  refine gop (y_indexAddr Tryd.underlying37 Tryd.sizeOf9 rfl rfl rfl (by omega) (by omega)) rfl rfl rfl ?_
  refine gop (y_load Tryd.isAgg9 rfl (cells_rowl 1 (f := strCells) (l := cutB line) rfl rfl (fun _ => rfl) (List.getElem?_eq_getElem (cutB_pos line)) 0 _ rfl)) rfl rfl rfl ?_
  refine gop (y_build (vs := [(0, .string _)]) (cells := #[_, .slice none 0 0]) rfl (bd32_0 _)) rfl rfl rfl ?_
  refine gop_alloc (cs := #[.string .empty, .slice none 0 0]) Tryd.zeroValue32 rfl rfl (fun b5 hb5 => ?_)
  refine gop_store 2 (v := .agg #[_, _]) (cs' := #[_, _]) rfl rfl Tryd.sizeOf32 rfl rfl rfl rfl (Nat.le_of_ble_eq_true rfl) rfl rfl ?_
  refine gops_nil ?_
  refine hN3 _ _ ?_
  refine gT [box b2 _, rowl _ _ _ _ _ _, box b5 _] rfl ?_
  refine gfrom [(2, .pointer _), (4, .slice (some ⟨rg1, 0, none⟩) _ _), (5, .pointer _)] ⟨rfl, rfl, rfl, trivial⟩ fun σ => ?_
  refine gseq fun N4 hN4 => ?_
  refine gseq fun N5 hN5 => ?_
  refine greg ?_
  refine gop (y_move (v := .slice (some ⟨rg1, 0, none⟩) _ _) rfl) rfl rfl rfl ?_
  refine gop (y_tail Tryd.underlying37 Tryd.sizeOf9 rfl rfl (by omega)) rfl rfl rfl ?_
  refine gop (y_len Tryd.underlying37 rfl) rfl rfl rfl ?_
  refine gop (y_move (v := .int _ _) rfl) rfl rfl rfl ?_
  refine gops_nil ?_
  refine hN5 _ _ ?_
  refine gfrom [(2, .pointer _), (5, .pointer _), (15, .slice (some ⟨rg1, tl c9, none⟩) _ _), (16, .int _ _), (17, .int _ _)] ⟨rfl, rfl, rfl, rfl, rfl, trivial⟩ fun σ => ?_
  refine gblock ?_
  rw [← headW_eq line]
  refine gnilrow intCells 3 1 ?_
  refine gfrom2 [(17, .int _ _)] [(2, .pointer _), (5, .pointer _), (15, .slice (some ⟨rg1, tl c9, none⟩) _ _), (16, .int _ _)] ⟨rfl, trivial⟩ ⟨rfl, rfl, rfl, rfl, trivial⟩ fun σ => ?_
  refine gloop2 (G := Nat × Option Addr × Nat × List Int) (fun (k, Av, cv, us) => k ≤ (cutB line).length - 1 ∧ ReadTo ((cutB line).drop 1) k us) (fun (k, Av, cv, us) => (cutB line).length - 1 - k) (fun (k, Av, cv, us) => [(17, .int .i64 (k : Int))]) (fun (k, Av, cv, us) => [(2, box b5 (.cells #[.string (headW (cutB line)), .slice Av us.length cv] 32)), (3, rowl intCells w.heap.size 3 1 (.slice Av us.length cv) (us))]) ((0, none, 0, [])) ?h0 ⟨rfl, trivial⟩ ⟨rfl, rfl, rfl, rfl, trivial⟩ rfl ?round
  case h0 => exact ⟨Nat.zero_le _, ReadTo.zero _⟩
  case round =>
    rintro ⟨k, Av, cv, us⟩ hφ σ
    obtain ⟨hk, hRT⟩ := hφ
    refine gT [box b2 _, rowl _ _ _ _ _ _, box b5 _, rowl _ _ _ _ _ _] rfl ?_
    refine gseq fun N6 hN6 => ?_
    refine greg ?_
    refine gop (y_lss rfl rfl) rfl rfl rfl ?_
    refine gops_nil ?_
    refine hN6 _ _ ?_
    refine gfrom [(2, .pointer _), (5, .pointer _), (15, .slice (some ⟨rg1, tl c9, none⟩) _ _), (16, .int _ _), (17, .int _ _), (18, .bool _)] ⟨rfl, rfl, rfl, rfl, rfl, rfl, trivial⟩ fun σ => ?_
    refine gseq fun N7 hN7 => ?_
    refine gcond (b := _) rfl (fun hc18 => ?_) (fun hc18 => ?_)
    · 
      replace hc18 := of_decide_eq_true hc18
      have hk1 : k + 1 < (cutB line).length := by omega
      refine gskip ?_
      refine hN7 _ _ ?_
      refine gfrom [(2, .pointer _), (5, .pointer _), (15, .slice (some ⟨rg1, tl c9, none⟩) _ _), (16, .int _ _), (17, .int _ _)] ⟨rfl, rfl, rfl, rfl, rfl, trivial⟩ fun σ => ?_
      refine gseq fun N8 hN8 => ?_
      refine gblock ?_
      refine gseq fun N9 hN9 => ?_
      refine greg ?_
      refine gop (y_indexAddr (m := k) Tryd.underlying37 Tryd.sizeOf9 rfl rfl (by omega) (by omega) (by omega)) rfl rfl rfl ?_
      refine gop (y_load Tryd.isAgg9 rfl (cell_tail 1 (f := strCells) rfl rfl (fun _ => rfl) (by omega) (List.getElem?_eq_getElem hk1) rfl)) rfl rfl rfl ?_
      refine gop (y_assign (v := .string _) rfl) rfl rfl rfl ?_
      refine gops_nil ?_
      refine hN9 _ _ ?_
      refine gfrom [(2, .pointer _), (5, .pointer _), (7, .string _), (15, .slice (some ⟨rg1, tl c9, none⟩) _ _), (16, .int _ _), (17, .int _ _)] ⟨rfl, rfl, rfl, rfl, rfl, rfl, trivial⟩ fun σ => ?_
      refine gseq fun N10 hN10 => ?_
      refine gseq fun N11 hN11 => ?_
      refine greg ?_
      refine gop (y_move (v := .string _) rfl) rfl rfl rfl ?_
      refine gop (y_lens Tryd.underlying9 rfl) rfl rfl rfl ?_
      refine gop (y_neq rfl rfl) rfl rfl rfl ?_
      refine gop (y_move (v := .bool _) rfl) rfl rfl rfl ?_
      refine gop_if (want := false) rfl rfl rfl rfl rfl rfl (fun hg24 => ?_) (fun hg24 => ?_)
      · 
        have hg24d := Decidable.not_not.1 (of_decide_eq_false hg24)
        refine gop (y_bare (y_move (v := .string _) rfl)) rfl rfl rfl ?_
        refine gop_on rfl rfl rfl rfl hg24 ?_
        refine gop (y_bare (y_stridx (m := 0) Tryd.underlying9 rfl rfl (by omega) (by omega) (by omega))) rfl rfl rfl ?_
        refine gop_on rfl rfl rfl rfl hg24 ?_
        refine gop (y_bare (y_lss rfl rfl)) rfl rfl rfl ?_
        refine gop (y_pick_f (v := .bool _) rfl hg24 rfl) rfl rfl rfl ?_
        refine gop (y_move (v := .bool _) rfl) rfl rfl rfl ?_
        refine gop_if (want := false) rfl rfl rfl rfl rfl rfl (fun hg29 => ?_) (fun hg29 => ?_)
        · 
          have hg29d := of_decide_eq_false hg29
          refine gop (y_bare (y_move (v := .string _) rfl)) rfl rfl rfl ?_
          refine gop_on rfl rfl rfl rfl hg29 ?_
          refine gop (y_bare (y_stridx (m := 0) Tryd.underlying9 rfl rfl (by omega) (by omega) (by omega))) rfl rfl rfl ?_
          refine gop_on rfl rfl rfl rfl hg29 ?_
          refine gop (y_bare (y_gtr rfl rfl)) rfl rfl rfl ?_
          refine gop (y_pick_f (v := .bool _) rfl hg29 rfl) rfl rfl rfl ?_
          refine gops_nil ?_
          refine hN11 _ _ ?_
          refine gfrom [(2, .pointer _), (5, .pointer _), (7, .string _), (15, .slice (some ⟨rg1, tl c9, none⟩) _ _), (16, .int _ _), (17, .int _ _), (33, .bool _)] ⟨rfl, rfl, rfl, rfl, rfl, rfl, rfl, trivial⟩ fun σ => ?_
          refine gcond (b := _) rfl (fun hc33 => ?_) (fun hc33 => ?_)
          · 
            replace hc33 := of_decide_eq_true hc33
            have hrd := hRT.stop (by rw [List.length_drop]; omega) (by rw [drop1_at hk1]; exact digit_no (by omega))
            refine gseq fun N12 hN12 => ?_
            refine greg ?_
            refine gop (y_loads (cs := [_, _]) Tryd.isAgg32 Tryd.sizeOf32 rfl rfl (cells_box 2 rfl)) rfl rfl rfl ?_
            refine gop_store 0 (v := .agg #[_, _]) (cs' := #[_, _]) rfl rfl Tryd.sizeOf32 rfl rfl rfl rfl (Nat.le_of_ble_eq_true rfl) rfl rfl ?_
            refine gop (y_assign (v := .int _ _) rfl) rfl rfl rfl ?_
            refine gops_nil ?_
            refine hN12 _ _ ?_
            refine gT [box b2 _, rowl _ _ _ _ _ _, box b5 _, rowl _ _ _ _ _ _] rfl ?_
            refine gfrom [(2, .pointer _), (3, .int _ _)] ⟨rfl, rfl, trivial⟩ fun σ => ?_
            refine gret fun w1 hM => ?_
            refine ⟨_, res2 rfl (rc 0 (cs := [_, _]) hM rfl rfl Tryd.isAgg32 Tryd.sizeOf32 rfl) (rt (v := .int _ _) rfl), ?_⟩
            have hl : lineR line = ⟨headW (cutB line), us⟩ := by rw [lineR, hrd]
            have hcode : lineC line = 1 := by rw [lineC, hrd]; rfl
            rw [hl, hcode]
            exact ⟨Av, cv, _, rfl, rfl, hM.dropTo 3 rfl⟩
          · 
            replace hc33 := of_decide_eq_false hc33
            refine gskip ?_
            refine hN10 _ _ ?_
            refine gfrom [(2, .pointer _), (5, .pointer _), (7, .string _), (15, .slice (some ⟨rg1, tl c9, none⟩) _ _), (16, .int _ _), (17, .int _ _)] ⟨rfl, rfl, rfl, rfl, rfl, rfl, trivial⟩ fun σ => ?_
            refine greg_e1 [9] [(3, emp)] (by kernel_rfl) ?_
            refine ge_take 0 (TK := [box b2 _, rowl _ _ _ _ _ _, box b5 _, emp]) rfl (by kernel_rfl) (by kernel_rfl) (by kernel_rfl) #[false, false, true, true, true, true, true, false, false, false] (by kernel_rfl) rfl (y_fieldAddr_box fa32_1 rfl) rfl rfl rfl (weak_emp 3 rfl) (listed' := #[true, false, false, false, false, false, false, false, false, false]) rfl ?_
            refine ge_take 1 (TK := [box b2 _, rowl _ _ _ _ _ _, box b5 _, emp]) rfl (by kernel_rfl) (by kernel_rfl) (by kernel_rfl) #[true, false, true, true, true, true, true, false, false, false] (by kernel_rfl) rfl (y_load Tryd.isAgg30 rfl (cell_box 2 rfl rfl)) rfl rfl rfl (weak_emp 3 rfl) (listed' := #[true, true, false, false, false, false, false, false, false, false]) rfl ?_
            refine ge_take 2 (TK := [box b2 _, rowl _ _ _ _ _ _, box b5 _, emp]) rfl (by kernel_rfl) (by kernel_rfl) (by kernel_rfl) #[true, true, false, false, false, false, false, false, false, false] (by kernel_rfl) rfl (y_move (v := .string _) rfl) rfl rfl rfl (weak_emp 3 rfl) (listed' := #[true, true, true, false, false, false, false, false, false, false]) rfl ?_
            refine ge_take 3 (TK := [box b2 _, rowl _ _ _ _ _ _, box b5 _, emp]) rfl (by kernel_rfl) (by kernel_rfl) (by kernel_rfl) #[true, true, true, false, false, false, false, false, false, false] (by kernel_rfl) rfl (y_stridx (m := 0) Tryd.underlying9 rfl rfl (by omega) (by omega) (by omega)) rfl rfl rfl (weak_emp 3 rfl) (listed' := #[true, true, true, true, false, false, false, false, false, false]) rfl ?_
            refine ge_take 4 (TK := [box b2 _, rowl _ _ _ _ _ _, box b5 _, emp]) rfl (by kernel_rfl) (by kernel_rfl) (by kernel_rfl) #[true, true, true, true, false, false, false, false, false, false] (by kernel_rfl) rfl (y_sub8 rfl rfl (by omega) (by have h9 := byteAt_lt (cutB line)[k + 1] 0; omega)) rfl rfl rfl (weak_emp 3 rfl) (listed' := #[true, true, true, true, true, false, false, false, false, false]) rfl ?_
            refine ge_take 5 (TK := [box b2 _, rowl _ _ _ _ _ _, box b5 _, emp]) rfl (by kernel_rfl) (by kernel_rfl) (by kernel_rfl) #[true, true, true, true, true, false, false, false, false, false] (by kernel_rfl) rfl (y_toInt (by kernel_rfl) Tryd.underlying3 rfl (by omega) (by have h9 := byteAt_lt (cutB line)[k + 1] 0; omega)) rfl rfl rfl (weak_emp 3 rfl) (listed' := #[true, true, true, true, true, true, false, false, false, false]) rfl ?_
            refine ge_one 6 (k' := 0) (listed' := #[true, true, true, true, true, true, true, false, false, false]) (by kernel_rfl) rfl rfl rfl ?_
            refine gop_lit (vs := [.int _ _]) (cells := #[_]) Tryd.underlying30 Tryd.sizeOf3 Tryd.zeroValue3 rfl (by decide) (by decide) rfl rfl rfl rfl (fun b41 hb41 => ?_)
            refine gops_nil ?_
            refine ge_fin (TK := [box b2 _, rowl _ _ _ _ _ _, box b5 _, emp]) rfl (weak_trans (weak_take (T' := [box b2 _, rowl _ _ _ _ _ _, box b5 _, rowl _ _ _ _ _ _]) rfl) (weak_emp 3 rfl)) ?_
            refine ge_one 7 (k' := 0) (listed' := #[true, true, true, true, true, true, true, true, false, false]) (by kernel_rfl) rfl rfl rfl ?_
            refine gop_append 3 (f := intCells) (l2 := [(byteAt (cutB line)[k + 1] 0 : Int) - 48]) Tryd.underlying30 el3 wide_int (v := .slice _ _ _) rfl rfl rfl rfl (fun h => by cases h) (by have h9 := hRT.len; simp [maxLen]; omega) (by have h9 := hRT.len; simp; omega) (src_box 4 rfl rfl) rfl (fun v42 => ?_)
            refine gops_fact (fun w hM => own_form (hM.own 3 rfl)) ?_
            rintro ⟨A42, c42, rfl, hc42, hm42⟩
            refine gops_nil ?_
            refine ge_fin (TK := [box b2 _, rowl _ _ _ _ _ _, box b5 _, emp]) rfl (weak_trans (weak_take (T' := [box b2 _, rowl _ _ _ _ _ _, box b5 _, rowl _ _ _ _ _ _]) rfl) (weak_emp 3 rfl)) ?_
            refine ge_take 8 (TK := [box b2 _, rowl _ _ _ _ _ _, box b5 _, emp]) rfl (by kernel_rfl) (by kernel_rfl) (by kernel_rfl) #[true, true, true, true, true, true, true, true, false, false] (by kernel_rfl) rfl (y_fieldAddr_box fa32_1 rfl) rfl rfl rfl (weak_trans (weak_take (T' := [box b2 _, rowl _ _ _ _ _ _, box b5 _, rowl _ _ _ _ _ _]) rfl) (weak_emp 3 rfl)) (listed' := #[true, true, true, true, true, true, true, true, true, false]) rfl ?_
            refine ge_one 9 (k' := 1) (listed' := #[true, true, true, true, true, true, true, true, true, true]) (by kernel_rfl) rfl rfl rfl ?_
            refine gop_store 2 (v := .slice A42 _ c42) (cs' := #[_, _]) rfl rfl Tryd.sizeOf30 rfl rfl rfl rfl (Nat.le_of_ble_eq_true rfl) rfl rfl ?_
            refine gops_nil ?_
            refine ge_fin (TK := []) rfl (weak_nil) ?_
            refine ge_done (by kernel_rfl) ?_
            refine hN8 _ _ ?_
            refine gT [box b2 _, rowl _ _ _ _ _ _, box b5 _, rowl _ _ _ _ _ _, box b41 _] rfl ?_
            refine gfrom [(2, .pointer _), (5, .pointer _), (15, .slice (some ⟨rg1, tl c9, none⟩) _ _), (16, .int _ _), (17, .int _ _)] ⟨rfl, rfl, rfl, rfl, rfl, trivial⟩ fun σ => ?_
            refine greg ?_
            refine gop (y_add rfl rfl ⟨by omega, by omega⟩) rfl rfl rfl ?_
            refine gop (y_move (v := .int _ _) rfl) rfl rfl rfl ?_
            refine gops_nil ?_
            refine gnext2 ((k + 1, A42, c42, us ++ [(byteAt (cutB line)[k + 1] 0 : Int) - 48])) (by show (cutB line).length - 1 - (k + 1) < (cutB line).length - 1 - k; omega) (⟨by show k + 1 ≤ _; omega, hRT.next (by rw [List.length_drop]; omega) (by rw [drop1_at hk1]; exact digit_yes (by omega))⟩) ⟨rfl, trivial⟩ ⟨rfl, rfl, rfl, rfl, trivial⟩ ⟨_, rfl⟩
        · 
          have hg29d := of_decide_eq_true hg29
          refine gop_off rfl rfl rfl rfl hg29 rfl rfl ?_
          refine gop_off rfl rfl rfl rfl hg29 rfl rfl ?_
          refine gop (y_pick_t (v := .bool _) rfl hg29 rfl) rfl rfl rfl ?_
          refine gops_nil ?_
          refine hN11 _ _ ?_
          refine gfrom [(2, .pointer _), (5, .pointer _), (7, .string _), (15, .slice (some ⟨rg1, tl c9, none⟩) _ _), (16, .int _ _), (17, .int _ _), (33, .bool _)] ⟨rfl, rfl, rfl, rfl, rfl, rfl, rfl, trivial⟩ fun σ => ?_
          refine gcond (b := _) rfl (fun hc33 => ?_) (fun hc33 => ?_)
          · 
            have hrd := hRT.stop (by rw [List.length_drop]; omega) (by rw [drop1_at hk1]; exact digit_no (by omega))
            refine gseq fun N13 hN13 => ?_
            refine greg ?_
            refine gop (y_loads (cs := [_, _]) Tryd.isAgg32 Tryd.sizeOf32 rfl rfl (cells_box 2 rfl)) rfl rfl rfl ?_
            refine gop_store 0 (v := .agg #[_, _]) (cs' := #[_, _]) rfl rfl Tryd.sizeOf32 rfl rfl rfl rfl (Nat.le_of_ble_eq_true rfl) rfl rfl ?_
            refine gop (y_assign (v := .int _ _) rfl) rfl rfl rfl ?_
            refine gops_nil ?_
            refine hN13 _ _ ?_
            refine gT [box b2 _, rowl _ _ _ _ _ _, box b5 _, rowl _ _ _ _ _ _] rfl ?_
            refine gfrom [(2, .pointer _), (3, .int _ _)] ⟨rfl, rfl, trivial⟩ fun σ => ?_
            refine gret fun w1 hM => ?_
            refine ⟨_, res2 rfl (rc 0 (cs := [_, _]) hM rfl rfl Tryd.isAgg32 Tryd.sizeOf32 rfl) (rt (v := .int _ _) rfl), ?_⟩
            have hl : lineR line = ⟨headW (cutB line), us⟩ := by rw [lineR, hrd]
            have hcode : lineC line = 1 := by rw [lineC, hrd]; rfl
            rw [hl, hcode]
            exact ⟨Av, cv, _, rfl, rfl, hM.dropTo 3 rfl⟩
          · 
            cases hc33
      · 
        have hg24d := of_decide_eq_true hg24
        refine gop_off rfl rfl rfl rfl hg24 rfl rfl ?_
        refine gop_off rfl rfl rfl rfl hg24 rfl rfl ?_
        refine gop (y_pick_t (v := .bool _) rfl hg24 rfl) rfl rfl rfl ?_
        refine gop (y_move (v := .bool _) rfl) rfl rfl rfl ?_
        refine gop_off rfl rfl rfl rfl rfl rfl rfl ?_
        refine gop_off rfl rfl rfl rfl rfl rfl rfl ?_
        refine gop_off rfl rfl rfl rfl rfl rfl rfl ?_
        refine gop (y_pick_t (v := .bool _) rfl rfl rfl) rfl rfl rfl ?_
        refine gops_nil ?_
        refine hN11 _ _ ?_
        refine gfrom [(2, .pointer _), (5, .pointer _), (7, .string _), (15, .slice (some ⟨rg1, tl c9, none⟩) _ _), (16, .int _ _), (17, .int _ _), (33, .bool _)] ⟨rfl, rfl, rfl, rfl, rfl, rfl, rfl, trivial⟩ fun σ => ?_
        refine gcond (b := _) rfl (fun hc33 => ?_) (fun hc33 => ?_)
        · 
          have hrd := hRT.stop (by rw [List.length_drop]; omega) (by rw [drop1_at hk1]; exact digit_no (by omega))
          refine gseq fun N14 hN14 => ?_
          refine greg ?_
          refine gop (y_loads (cs := [_, _]) Tryd.isAgg32 Tryd.sizeOf32 rfl rfl (cells_box 2 rfl)) rfl rfl rfl ?_
          refine gop_store 0 (v := .agg #[_, _]) (cs' := #[_, _]) rfl rfl Tryd.sizeOf32 rfl rfl rfl rfl (Nat.le_of_ble_eq_true rfl) rfl rfl ?_
          refine gop (y_assign (v := .int _ _) rfl) rfl rfl rfl ?_
          refine gops_nil ?_
          refine hN14 _ _ ?_
          refine gT [box b2 _, rowl _ _ _ _ _ _, box b5 _, rowl _ _ _ _ _ _] rfl ?_
          refine gfrom [(2, .pointer _), (3, .int _ _)] ⟨rfl, rfl, trivial⟩ fun σ => ?_
          refine gret fun w1 hM => ?_
          refine ⟨_, res2 rfl (rc 0 (cs := [_, _]) hM rfl rfl Tryd.isAgg32 Tryd.sizeOf32 rfl) (rt (v := .int _ _) rfl), ?_⟩
          have hl : lineR line = ⟨headW (cutB line), us⟩ := by rw [lineR, hrd]
          have hcode : lineC line = 1 := by rw [lineC, hrd]; rfl
          rw [hl, hcode]
          exact ⟨Av, cv, _, rfl, rfl, hM.dropTo 3 rfl⟩
        · 
          cases hc33
    · 
      replace hc18 := of_decide_eq_false hc18
      have hrd := hRT.done (by rw [List.length_drop]; omega)
      refine gexit ?_
      refine hN4 _ _ ?_
      refine gfrom [(2, .pointer _), (5, .pointer _)] ⟨rfl, rfl, trivial⟩ fun σ => ?_
      refine gseq fun N15 hN15 => ?_
      refine greg_e1 [] [(0, room b2 32 2)] (by kernel_rfl) ?_
      refine ge_take 0 (TK := [room b2 32 2, rowl _ _ _ _ _ _, box b5 _, rowl _ _ _ _ _ _]) rfl (by kernel_rfl) (by kernel_rfl) (by kernel_rfl) #[false, true, true, false, false] (by kernel_rfl) rfl (y_loads (cs := [_, _]) Tryd.isAgg32 Tryd.sizeOf32 rfl rfl (cells_box 2 rfl)) rfl rfl rfl (weak_room 0 rfl rfl) (listed' := #[true, false, false, false, false]) rfl ?_
      refine ge_take 1 (TK := [room b2 32 2, rowl _ _ _ _ _ _, box b5 _, rowl _ _ _ _ _ _]) rfl (by kernel_rfl) (by kernel_rfl) (by kernel_rfl) #[true, false, false, false, false] (by kernel_rfl) rfl (y_loads (cs := [_, _]) Tryd.isAgg32 Tryd.sizeOf32 rfl rfl (cells_box 2 rfl)) rfl rfl rfl (weak_room 0 rfl rfl) (listed' := #[true, true, false, false, false]) rfl ?_
      refine ge_one 2 (k' := 0) (listed' := #[true, true, true, false, false]) (by kernel_rfl) rfl rfl rfl ?_
      refine gop_pure (e_call (vs := [.agg #[_, _]]) Tryd.func57 rfl (by kernel_rfl) rfl) (fun w hM => check_any w _ us Av cv ((ruleR_row (hM.ok _ (List.mem_of_getElem? (i := 3) rfl)) (Nat.le_trans (show us.length * 8 ≤ 40000000 by have h9 := hRT.len; omega) (by decide))).mono (Nat.zero_le _))) rfl rfl rfl ?_
      refine gops_nil ?_
      refine ge_fin (TK := [room b2 32 2, rowl _ _ _ _ _ _, box b5 _, rowl _ _ _ _ _ _]) rfl (weak_room 0 rfl rfl) ?_
      refine ge_one 3 (k' := 0) (listed' := #[true, true, true, true, false]) (by kernel_rfl) rfl rfl rfl ?_
      refine gop_store 0 (v := .agg #[_, _]) (cs' := #[_, _]) rfl rfl Tryd.sizeOf32 rfl rfl rfl rfl (Nat.le_of_ble_eq_true rfl) rfl rfl ?_
      refine gops_nil ?_
      refine ge_fin (TK := [room b2 32 2, rowl _ _ _ _ _ _, box b5 _, rowl _ _ _ _ _ _]) rfl (weak_room 0 rfl rfl) ?_
      refine ge_take 4 (TK := [room b2 32 2, rowl _ _ _ _ _ _, box b5 _, rowl _ _ _ _ _ _]) rfl (by kernel_rfl) (by kernel_rfl) (by kernel_rfl) #[true, true, true, true, false] (by kernel_rfl) rfl (y_assign (v := .int _ _) rfl) rfl rfl rfl (weak_room 0 rfl rfl) (listed' := #[true, true, true, true, true]) rfl ?_
      refine ge_done (by kernel_rfl) ?_
      refine hN15 _ _ ?_
      refine gT [box b2 _, rowl _ _ _ _ _ _, box b5 _, rowl _ _ _ _ _ _] rfl ?_
      refine gfrom [(2, .pointer _), (3, .int _ _)] ⟨rfl, rfl, trivial⟩ fun σ => ?_
      refine gret fun w1 hM => ?_
      refine ⟨_, res2 rfl (rc 0 (cs := [_, _]) hM rfl rfl Tryd.isAgg32 Tryd.sizeOf32 rfl) (rt (v := .int _ _) rfl), ?_⟩
      have hl : lineR line = ⟨headW (cutB line), us⟩ := by rw [lineR, hrd]
      have hcode : lineC line = ruleCode ⟨headW (cutB line), us⟩ := by rw [lineC, hrd, hl]; rfl
      rw [hl, hcode]
      exact ⟨Av, cv, _, rfl, rfl, hM.dropTo 3 rfl⟩
end Go.Proofs.YtijpaljdclhehaaDoor
namespace Go.Proofs.YtijpaljdclhehaaDoor
open Go.RowKit Go.Cf
set_option maxRecDepth 10000
theorem el32 : Elem Tryd.prog 32 2 40 := elem_of (z := .agg #[.string .empty, .slice none 0 0]) (by kernel_rfl) rfl (by decide)
set_option maxHeartbeats 2000000 in
theorem parseFile_any (w : World) (A : Option Addr) (c : Nat) (text : List ByteArray) (ht : Rdl w 0 1 strCells A text) (hm : text.length ≤ maxLen) :
    Calls Tryd.prog 22 #[.slice A text.length c] w fun e w' => ∃ v T' rs' fr, e = .returned (.tuple #[v, fv (fileF text)]) ∧ T' = [rowl ruleCells w.heap.size 32 2 (v) (rs'), fr] ∧ rls rs' = fileV text ∧ (∀ w1, fr.ok w1 → ∀ a ∈ rs', RuleR w1 w.heap.size a) ∧ Mem w T' w' := by
  refine gcalls Tryd.func22 rfl Tryd.ntmps22 (Nat.le_of_ble_eq_true rfl) ?_
  refine gfrom [(0, .slice _ _ _)] ⟨rfl, trivial⟩ fun σ => ?_
  refine gseq fun N1 hN1 => ?_
  refine greg ?_
  refine gop (y_assign (v := .slice _ _ _) rfl) rfl rfl rfl ?_
  refine gop_alloc (cs := #[.int .i64 0, .int .i64 0]) Tryd.zeroValue23 rfl rfl (fun b3 hb3 => ?_)
  refine gops_nil ?_
  refine hN1 _ _ ?_
  refine gT [box b3 _] rfl ?_
  refine gfrom [(0, .slice _ _ _), (3, .pointer _)] ⟨rfl, rfl, trivial⟩ fun σ => ?_
  refine gseq fun N2 hN2 => ?_
  refine gseq fun N3 hN3 => ?_
  refine greg ?_
  refine gop (y_move (v := .slice _ _ _) rfl) rfl rfl rfl ?_
  refine gop_pure (e_call (vs := [.slice _ _ _]) Tryd.func29 rfl (by kernel_rfl) rfl) (fun w hM => linesValidate_any w A c text (ht.base hM) hm) rfl rfl rfl ?_
  refine gop_alloc (cs := #[.int .i64 0, .int .i64 0]) Tryd.zeroValue23 rfl rfl (fun b4 hb4 => ?_)
  refine gop_store 1 (v := .agg #[_, _]) (cs' := #[_, _]) rfl rfl Tryd.sizeOf23 rfl rfl rfl rfl (Nat.le_of_ble_eq_true rfl) rfl rfl ?_
  refine gops_nil ?_
  refine hN3 _ _ ?_
  refine gT [box b3 _, box b4 _] rfl ?_
  refine gfrom [(0, .slice _ _ _), (3, .pointer _), (4, .pointer _)] ⟨rfl, rfl, rfl, trivial⟩ fun σ => ?_
  refine gseq fun N4 hN4 => ?_
  refine greg ?_
  refine gop (y_loads (cs := [_, _]) Tryd.isAgg23 Tryd.sizeOf23 rfl rfl (cells_box 1 rfl)) rfl rfl rfl ?_
  refine gop (y_build (vs := []) (cells := #[.int .i64 0, .int .i64 0]) rfl bd23_) rfl rfl rfl ?_
  refine gop (y_bin (vx := .agg #[_, _]) (vy := .agg #[_, _]) rfl rfl (fun w => eg23 _ _ _ _ _ w) (fun w => ne23 _ _ _ _ w)) rfl rfl rfl ?_
  refine gops_nil ?_
  refine hN4 _ _ ?_
  refine gfrom [(0, .slice _ _ _), (3, .pointer _), (4, .pointer _), (14, .bool _)] ⟨rfl, rfl, rfl, rfl, trivial⟩ fun σ => ?_
  refine gcond (b := _) rfl (fun hc14 => ?_) (fun hc14 => ?_)
  · 
    replace hc14 := fault_ne.1 hc14
    have hFF : fileF text = linesF text := by rw [fileF, if_pos hc14]
    refine gseq fun N5 hN5 => ?_
    refine greg_e1 [] [(0, room b3 23 2)] (by kernel_rfl) ?_
    refine ge_take 0 (TK := [room b3 23 2, box b4 _]) rfl (by kernel_rfl) (by kernel_rfl) (by kernel_rfl) #[false, true, false] (by kernel_rfl) rfl (y_loads (cs := [_, _]) Tryd.isAgg23 Tryd.sizeOf23 rfl rfl (cells_box 1 rfl)) rfl rfl rfl (weak_room 0 rfl rfl) (listed' := #[true, false, false]) rfl ?_
    refine ge_take 1 (TK := [room b3 23 2, box b4 _]) rfl (by kernel_rfl) (by kernel_rfl) (by kernel_rfl) #[true, false, false] (by kernel_rfl) rfl (y_assign (v := .slice _ _ _) rfl) rfl rfl rfl (weak_room 0 rfl rfl) (listed' := #[true, true, false]) rfl ?_
    refine ge_one 2 (k' := 0) (listed' := #[true, true, true]) (by kernel_rfl) rfl rfl rfl ?_
    refine gop_store 0 (v := .agg #[_, _]) (cs' := #[_, _]) rfl rfl Tryd.sizeOf23 rfl rfl rfl rfl (Nat.le_of_ble_eq_true rfl) rfl rfl ?_
    refine gops_nil ?_
    refine ge_fin (TK := [room b3 23 2, box b4 _]) rfl (weak_room 0 rfl rfl) ?_
    refine ge_done (by kernel_rfl) ?_
    refine hN5 _ _ ?_
    refine gT [box b3 _, box b4 _] rfl ?_
    refine gfrom [(2, .slice _ _ _), (3, .pointer _)] ⟨rfl, rfl, trivial⟩ fun σ => ?_
    refine gret fun w1 hM => ?_
    refine ⟨_, res2 rfl (rt (v := .slice _ _ _) rfl) (rc 0 (cs := [_, _]) hM rfl rfl Tryd.isAgg23 Tryd.sizeOf23 rfl), ?_⟩
    exact ⟨_, _, [], emp, by rw [hFF], rfl, by rw [fileV, if_neg (by rw [hFF]; exact hc14)]; rfl, fun _ _ _ h => (by cases h), (mem_nilrow ruleCells 32 2 hM).emp.dropTo 2 rfl⟩
  · 
    replace hc14 := fault_eq.1 hc14
    have hls := line_size hc14
    refine gskip ?_
    refine hN2 _ _ ?_
    refine gfrom [(0, .slice _ _ _), (3, .pointer _)] ⟨rfl, rfl, trivial⟩ fun σ => ?_
    refine gseq fun N6 hN6 => ?_
    refine greg ?_
    refine gop (y_assign (v := .slice _ _ _) rfl) rfl rfl rfl ?_
    refine gops_nil ?_
    refine hN6 _ _ ?_
    refine gfrom [(0, .slice _ _ _), (3, .pointer _), (5, .slice _ _ _)] ⟨rfl, rfl, rfl, trivial⟩ fun σ => ?_
    refine gseq fun N7 hN7 => ?_
    refine gseq fun N8 hN8 => ?_
    refine greg ?_
    refine gop (y_move (v := .slice _ _ _) rfl) rfl rfl rfl ?_
    refine gop (y_len Tryd.underlying37 rfl) rfl rfl rfl ?_
    refine gop (y_move (v := .int _ _) rfl) rfl rfl rfl ?_
    refine gops_nil ?_
    refine hN8 _ _ ?_
    refine gfrom [(3, .pointer _), (5, .slice _ _ _), (16, .slice _ _ _), (17, .int _ _), (18, .int _ _)] ⟨rfl, rfl, rfl, rfl, rfl, trivial⟩ fun σ => ?_
    refine gblock ?_
    refine gnilrow ruleCells 32 2 ?_
    refine g_emp ?_
    refine gfrom2 [(5, .slice _ _ _), (18, .int _ _)] [(3, .pointer _), (16, .slice _ _ _), (17, .int _ _)] ⟨rfl, rfl, trivial⟩ ⟨rfl, rfl, rfl, trivial⟩ fun σ => ?_
    refine gloop2 (G := Nat × Option Addr × Nat × List RuleC × Reg) (fun (k, Av, cv, rn, fr) => k ≤ text.length ∧ rls rn = readL (text.take k) ∧ (∀ j (h : j < text.length), j < k → badL text[j] = 0) ∧ ∀ w1, fr.ok w1 → ∀ a ∈ rn, RuleR w1 w.heap.size a) (fun (k, Av, cv, rn, fr) => text.length - k) (fun (k, Av, cv, rn, fr) => [(5, .slice Av rn.length cv), (18, .int .i64 (k : Int))]) (fun (k, Av, cv, rn, fr) => [(2, rowl ruleCells w.heap.size 32 2 (.slice Av rn.length cv) (rn)), (3, fr)]) ((0, none, 0, [], emp)) ?h0 ⟨rfl, rfl, trivial⟩ ⟨rfl, rfl, rfl, trivial⟩ rfl ?round
    case h0 => exact ⟨Nat.zero_le _, rfl, fun _ _ h => absurd h (by omega), fun _ _ _ h => (by cases h)⟩
    case round =>
      rintro ⟨k, Av, cv, rn, fr⟩ hφ σ
      obtain ⟨hk, hrl, hz, hfr⟩ := hφ
      have hrnl : rn.length ≤ k := by have h8 := congrArg List.length hrl; have h9 := readL_len (text.take k); simp at h8 h9; omega
      refine gT [box b3 _, box b4 _, rowl _ _ _ _ _ _, fr] rfl ?_
      refine gseq fun N9 hN9 => ?_
      refine greg ?_
      refine gop (y_lss rfl rfl) rfl rfl rfl ?_
      refine gops_nil ?_
      refine hN9 _ _ ?_
      refine gfrom [(3, .pointer _), (5, .slice Av _ cv), (16, .slice _ _ _), (17, .int _ _), (18, .int _ _), (19, .bool _)] ⟨rfl, rfl, rfl, rfl, rfl, rfl, trivial⟩ fun σ => ?_
      refine gseq fun N10 hN10 => ?_
      refine gcond (b := _) rfl (fun hc19 => ?_) (fun hc19 => ?_)
      · 
        replace hc19 := of_decide_eq_true hc19
        have hk1 : k < text.length := by omega
        obtain ⟨ad, rfl, -, hca⟩ := ht.at_ hk1
        refine gskip ?_
        refine hN10 _ _ ?_
        refine gfrom [(3, .pointer _), (5, .slice Av _ cv), (16, .slice _ _ _), (17, .int _ _), (18, .int _ _)] ⟨rfl, rfl, rfl, rfl, rfl, trivial⟩ fun σ => ?_
        refine gseq fun N11 hN11 => ?_
        refine gblock ?_
        refine gseq fun N12 hN12 => ?_
        refine greg ?_
        refine gop (y_move (v := .int _ _) rfl) rfl rfl rfl ?_
        refine gop (y_indexAddr (m := k) Tryd.underlying37 Tryd.sizeOf9 rfl rfl (by omega) (by omega) (by omega)) rfl rfl rfl ?_
        refine gop (y_load Tryd.isAgg9 rfl (cell_base (hca 0 _ rfl))) rfl rfl rfl ?_
        refine gop (y_assign (v := .int _ _) rfl) rfl rfl rfl ?_
        refine gop (y_assign (v := .string _) rfl) rfl rfl rfl ?_
        refine gops_nil ?_
        refine hN12 _ _ ?_
        refine gfrom [(3, .pointer _), (5, .slice Av _ cv), (6, .int _ _), (7, .string _), (16, .slice _ _ _), (17, .int _ _), (18, .int _ _)] ⟨rfl, rfl, rfl, rfl, rfl, rfl, rfl, trivial⟩ fun σ => ?_
        refine gseq fun N13 hN13 => ?_
        refine gseq fun N14 hN14 => ?_
        refine greg ?_
        refine gop (y_move (v := .string _) rfl) rfl rfl rfl ?_
        refine gop (y_eqls rfl rfl) rfl rfl rfl ?_
        refine gop (y_move (v := .bool _) rfl) rfl rfl rfl ?_
        refine gop_if (want := false) rfl rfl rfl rfl rfl rfl (fun hg25 => ?_) (fun hg25 => ?_)
        · 
          have hg25d := hg25
          have hsz : 0 < text[k].size := str_pos hg25d
          refine gop (y_bare (y_move (v := .string _) rfl)) rfl rfl rfl ?_
          refine gop_on rfl rfl rfl rfl hg25 ?_
          refine gop (y_bare (y_stridx (m := 0) Tryd.underlying9 rfl rfl (by omega) (by omega) (by omega))) rfl rfl rfl ?_
          refine gop_on rfl rfl rfl rfl hg25 ?_
          refine gop (y_bare (y_eql rfl rfl)) rfl rfl rfl ?_
          refine gop (y_pick_f (v := .bool _) rfl hg25 rfl) rfl rfl rfl ?_
          refine gops_nil ?_
          refine hN14 _ _ ?_
          refine gfrom [(3, .pointer _), (5, .slice Av _ cv), (6, .int _ _), (7, .string _), (16, .slice _ _ _), (17, .int _ _), (18, .int _ _), (29, .bool _)] ⟨rfl, rfl, rfl, rfl, rfl, rfl, rfl, rfl, trivial⟩ fun σ => ?_
          refine gcond (b := _) rfl (fun hc29 => ?_) (fun hc29 => ?_)
          · 
            replace hc29 := of_decide_eq_true hc29
            have hsk : skipL text[k] = true := by first | (unfold skipL; rw [show strEq text[k] ⟨#[]⟩ = true from hg25d]; rfl) | (unfold skipL; rw [decide_eq_true (show byteAt text[k] 0 = 35 by omega)]; simp)
            refine gexit ?_
            refine hN11 _ _ ?_
            refine gfrom [(3, .pointer _), (5, .slice Av _ cv), (16, .slice _ _ _), (17, .int _ _), (18, .int _ _)] ⟨rfl, rfl, rfl, rfl, rfl, trivial⟩ fun σ => ?_
            refine greg ?_
            refine gop (y_add rfl rfl ⟨by omega, by omega⟩) rfl rfl rfl ?_
            refine gop (y_move (v := .int _ _) rfl) rfl rfl rfl ?_
            refine gops_nil ?_
            refine gnext2 ((k + 1, Av, cv, rn, fr)) (by show text.length - (k + 1) < text.length - k; omega) (⟨by show k + 1 ≤ _; omega, by rw [readL_take hk1, hsk]; simpa using hrl, fun j h hj => by rcases Nat.lt_succ_iff_lt_or_eq.1 hj with h1 | rfl; exact hz j h h1; rw [badL, if_pos hsk], hfr⟩) ⟨rfl, rfl, trivial⟩ ⟨rfl, rfl, rfl, trivial⟩ ⟨_, rfl⟩
            skip
          · 
            replace hc29 := of_decide_eq_false hc29
            have hsk : skipL text[k] = false := by unfold skipL; rw [show strEq text[k] ⟨#[]⟩ = false from hg25d, decide_eq_false (show ¬ byteAt text[k] 0 = 35 by omega)]; rfl
            have hbd : badL text[k] = lineC text[k] := by rw [badL, hsk]; rfl
            refine gskip ?_
            refine hN13 _ _ ?_
            refine gfrom [(3, .pointer _), (5, .slice Av _ cv), (6, .int _ _), (7, .string _), (16, .slice _ _ _), (17, .int _ _), (18, .int _ _)] ⟨rfl, rfl, rfl, rfl, rfl, rfl, rfl, trivial⟩ fun σ => ?_
            refine gseq fun N15 hN15 => ?_
            refine greg ?_
            refine gop (y_move (v := .string _) rfl) rfl rfl rfl ?_
            refine gop_got (fun v T' => ∃ A1 c1 lo, w.heap.size ≤ lo ∧ v = .tuple #[.agg #[.string (lineR text[k]).pat, .slice A1 (lineR text[k]).users.length c1], .int .i64 (lineC text[k])] ∧ T' = [rowl intCells lo 3 1 (.slice A1 (lineR text[k]).users.length c1) ((lineR text[k]).users)]) (e_call (vs := [.string _]) Tryd.func50 rfl (by kernel_rfl) rfl) (fun w hM => (parse_any w text[k] (by have h9 := (hls.2 k hk1).2; omega)).mono fun _ _ ⟨A1, c1, T1, h1, h2, h3⟩ => ⟨_, T1, h1, ⟨A1, c1, _, hM.low.size, rfl, h2⟩, h3⟩) rfl rfl rfl ?_
            rintro _ _ ⟨A32, c32, lo32, hlo32, rfl, rfl⟩
            refine gops_mem _ (weak_lower 4 rfl hlo32) ?_
            refine gop (y_move (v := .tuple #[.agg #[_, _], .int _ _]) rfl) rfl rfl rfl ?_
            refine gop (y_extract (v := .agg #[_, _]) rfl rfl) rfl rfl rfl ?_
            refine gop (y_extract (v := .int _ _) rfl rfl) rfl rfl rfl ?_
            refine gop_alloc (cs := #[.string .empty, .slice none 0 0]) Tryd.zeroValue32 rfl rfl (fun b8 hb8 => ?_)
            refine gop_store 5 (v := .agg #[_, _]) (cs' := #[_, _]) rfl rfl Tryd.sizeOf32 rfl rfl rfl rfl (Nat.le_of_ble_eq_true rfl) rfl rfl ?_
            refine gop (y_assign (v := .int _ _) rfl) rfl rfl rfl ?_
            refine gops_nil ?_
            refine hN15 _ _ ?_
            refine gT [box b3 _, box b4 _, rowl _ _ _ _ _ _, fr, rowl _ _ _ _ _ _, box b8 _] rfl ?_
            refine gfrom [(3, .pointer _), (5, .slice Av _ cv), (6, .int _ _), (8, .pointer _), (9, .int _ _), (16, .slice _ _ _), (17, .int _ _), (18, .int _ _)] ⟨rfl, rfl, rfl, rfl, rfl, rfl, rfl, rfl, trivial⟩ fun σ => ?_
            refine gseq fun N16 hN16 => ?_
            refine gseq fun N17 hN17 => ?_
            refine greg ?_
            refine gop (y_move (v := .int _ _) rfl) rfl rfl rfl ?_
            refine gop (y_neq rfl rfl) rfl rfl rfl ?_
            refine gops_nil ?_
            refine hN17 _ _ ?_
            refine gfrom [(3, .pointer _), (5, .slice Av _ cv), (6, .int _ _), (8, .pointer _), (9, .int _ _), (16, .slice _ _ _), (17, .int _ _), (18, .int _ _), (36, .bool _)] ⟨rfl, rfl, rfl, rfl, rfl, rfl, rfl, rfl, rfl, trivial⟩ fun σ => ?_
            refine gcond (b := _) rfl (fun hc36 => ?_) (fun hc36 => ?_)
            · 
              replace hc36 := of_decide_eq_true hc36
              have hsc := scan_at (f := fun _ s => badL s) hk1 hz (by rw [hbd]; exact hc36)
              have hFF : fileF text = ⟨lineC text[k], k⟩ := by rw [fileF, if_neg (fun h => h hc14), hsc, hbd, if_pos (fun h => hc36 (congrArg Fault.code h))]
              refine gseq fun N18 hN18 => ?_
              refine greg ?_
              refine gop (y_move (v := .int _ _) rfl) rfl rfl rfl ?_
              refine gop (y_move (v := .int _ _) rfl) rfl rfl rfl ?_
              refine gop (y_build (vs := [(0, .int _ _), (1, .int _ _)]) (cells := #[_, _]) rfl (bd23_0_1 _ _)) rfl rfl rfl ?_
              refine gop (y_assign (v := .slice _ _ _) rfl) rfl rfl rfl ?_
              refine gop_store 0 (v := .agg #[_, _]) (cs' := #[_, _]) rfl rfl Tryd.sizeOf23 rfl rfl rfl rfl (Nat.le_of_ble_eq_true rfl) rfl rfl ?_
              refine gops_nil ?_
              refine hN18 _ _ ?_
              refine gT [box b3 _, box b4 _, rowl _ _ _ _ _ _, fr, rowl _ _ _ _ _ _, box b8 _] rfl ?_
              refine gfrom [(2, .slice _ _ _), (3, .pointer _)] ⟨rfl, rfl, trivial⟩ fun σ => ?_
              refine gret fun w1 hM => ?_
              refine ⟨_, res2 rfl (rt (v := .slice _ _ _) rfl) (rc 0 (cs := [_, _]) hM rfl rfl Tryd.isAgg23 Tryd.sizeOf23 rfl), ?_⟩
              exact ⟨_, _, [], emp, by rw [hFF], rfl, by rw [fileV, if_neg (by rw [hFF]; exact fun h => hc36 (congrArg Fault.code h))]; rfl, fun _ _ _ h => (by cases h), (mem_nilrow ruleCells 32 2 hM).emp.dropTo 6 rfl⟩
            · 
              replace hc36 := Decidable.not_not.1 (of_decide_eq_false hc36)
              refine gskip ?_
              refine hN16 _ _ ?_
              refine gfrom [(3, .pointer _), (5, .slice Av _ cv), (8, .pointer _), (16, .slice _ _ _), (17, .int _ _), (18, .int _ _)] ⟨rfl, rfl, rfl, rfl, rfl, rfl, trivial⟩ fun σ => ?_
              refine greg ?_
              refine gop (y_move (v := .slice Av _ cv) rfl) rfl rfl rfl ?_
              refine gop (y_loads (cs := [_, _]) Tryd.isAgg32 Tryd.sizeOf32 rfl rfl (cells_box 5 rfl)) rfl rfl rfl ?_
              refine gop_lit (vs := [.agg #[_, _]]) (cells := #[_, _]) Tryd.underlying29 Tryd.sizeOf32 Tryd.zeroValue32 rfl (by decide) (by decide) rfl rfl rfl rfl (fun b42 hb42 => ?_)
              refine gop_append 2 (f := ruleCells) (l2 := [⟨lineR text[k], A32, c32⟩]) Tryd.underlying29 el32 wide_rule (v := .slice Av _ cv) rfl rfl rfl rfl (fun h => by cases h) (by simp [maxLen]; omega) (by simp; omega) (src_box 6 rfl rfl) rfl (fun v43 => ?_)
              refine gops_fact (fun w hM => own_form (hM.own 2 rfl)) ?_
              rintro ⟨A43, c43, rfl, hc43, hm43⟩
              refine gop (y_assign (v := .slice A43 _ c43) rfl) rfl rfl rfl ?_
              refine gops_nil ?_
              refine hN11 _ _ ?_
              refine gT [box b3 _, box b4 _, rowl _ _ _ _ _ _, fr, rowl _ _ _ _ _ _, box b8 _, box b42 _] rfl ?_
              refine gfrom [(3, .pointer _), (5, .slice A43 _ c43), (16, .slice _ _ _), (17, .int _ _), (18, .int _ _)] ⟨rfl, rfl, rfl, rfl, rfl, trivial⟩ fun σ => ?_
              refine greg ?_
              refine gop (y_add rfl rfl ⟨by omega, by omega⟩) rfl rfl rfl ?_
              refine gop (y_move (v := .int _ _) rfl) rfl rfl rfl ?_
              refine gops_nil ?_
              refine fin_mem _ (weak_all 4 3 rfl) ?_
              refine gnext2 ((k + 1, A43, c43, rn ++ [⟨lineR text[k], A32, c32⟩], both fr (all_ [_, _, _]))) (by show text.length - (k + 1) < text.length - k; omega) (⟨by show k + 1 ≤ _; omega, by rw [readL_take hk1, hsk]; show List.map _ _ = _; rw [List.map_append]; show rls rn ++ _ = _; rw [hrl]; rfl, fun j h hj => by rcases Nat.lt_succ_iff_lt_or_eq.1 hj with h1 | rfl; exact hz j h h1; rw [hbd]; exact hc36, fun w1 ho a ha => ?hr⟩) ⟨rfl, rfl, trivial⟩ ⟨rfl, rfl, rfl, trivial⟩ ⟨_, rfl⟩
              case hr =>
                rcases List.mem_append.1 ha with ha | ha
                · exact hfr w1 ho.1 a ha
                · obtain rfl := List.mem_singleton.1 ha
                  exact ruleR_row (ho.2.1) (Nat.le_trans (show (lineR text[k]).users.length * 8 ≤ 40000000 by have h9 := lineR_len text[k]; have h8 := (hls.2 k hk1).2; omega) (by decide))
        · 
          have hg25d := hg25
          refine gop_off rfl rfl rfl rfl hg25 rfl rfl ?_
          refine gop_off rfl rfl rfl rfl hg25 rfl rfl ?_
          refine gop (y_pick_t (v := .bool _) rfl hg25 rfl) rfl rfl rfl ?_
          refine gops_nil ?_
          refine hN14 _ _ ?_
          refine gfrom [(3, .pointer _), (5, .slice Av _ cv), (6, .int _ _), (7, .string _), (16, .slice _ _ _), (17, .int _ _), (18, .int _ _), (29, .bool _)] ⟨rfl, rfl, rfl, rfl, rfl, rfl, rfl, rfl, trivial⟩ fun σ => ?_
          refine gcond (b := _) rfl (fun hc29 => ?_) (fun hc29 => ?_)
          · 
            have hsk : skipL text[k] = true := by first | (unfold skipL; rw [show strEq text[k] ⟨#[]⟩ = true from hg25d]; rfl) | (unfold skipL; rw [decide_eq_true (show byteAt text[k] 0 = 35 by omega)]; simp)
            refine gexit ?_
            refine hN11 _ _ ?_
            refine gfrom [(3, .pointer _), (5, .slice Av _ cv), (16, .slice _ _ _), (17, .int _ _), (18, .int _ _)] ⟨rfl, rfl, rfl, rfl, rfl, trivial⟩ fun σ => ?_
            refine greg ?_
            refine gop (y_add rfl rfl ⟨by omega, by omega⟩) rfl rfl rfl ?_
            refine gop (y_move (v := .int _ _) rfl) rfl rfl rfl ?_
            refine gops_nil ?_
            refine gnext2 ((k + 1, Av, cv, rn, fr)) (by show text.length - (k + 1) < text.length - k; omega) (⟨by show k + 1 ≤ _; omega, by rw [readL_take hk1, hsk]; simpa using hrl, fun j h hj => by rcases Nat.lt_succ_iff_lt_or_eq.1 hj with h1 | rfl; exact hz j h h1; rw [badL, if_pos hsk], hfr⟩) ⟨rfl, rfl, trivial⟩ ⟨rfl, rfl, rfl, trivial⟩ ⟨_, rfl⟩
            skip
          · 
            cases hc29
      · 
        replace hc19 := of_decide_eq_false hc19
        have hsc : scan (fun _ s => badL s) text = ⟨0, 0⟩ := scan_ok fun j hj => hz j hj (by omega)
        have hrn : rls rn = readL text := by rw [hrl, List.take_of_length_le (by omega)]
        refine gexit ?_
        refine hN7 _ _ ?_
        refine gfrom [(3, .pointer _), (5, .slice Av _ cv)] ⟨rfl, rfl, trivial⟩ fun σ => ?_
        refine gseq fun N19 hN19 => ?_
        refine gseq fun N20 hN20 => ?_
        refine greg ?_
        refine gop (y_move (v := .slice Av _ cv) rfl) rfl rfl rfl ?_
        refine gop (y_len Tryd.underlying29 rfl) rfl rfl rfl ?_
        refine gop (y_gtr rfl rfl) rfl rfl rfl ?_
        refine gops_nil ?_
        refine hN20 _ _ ?_
        refine gfrom [(3, .pointer _), (5, .slice Av _ cv), (47, .bool _)] ⟨rfl, rfl, rfl, trivial⟩ fun σ => ?_
        refine gcond (b := _) rfl (fun hc47 => ?_) (fun hc47 => ?_)
        · 
          replace hc47 := of_decide_eq_true hc47
          refine gseq fun N21 hN21 => ?_
          refine greg ?_
          refine gop (y_build (vs := [(0, _), (1, _)]) (cells := #[_, _]) rfl (bd23_0_1 _ _)) rfl rfl rfl ?_
          refine gop (y_assign (v := .slice _ _ _) rfl) rfl rfl rfl ?_
          refine gop_store 0 (v := .agg #[_, _]) (cs' := #[_, _]) rfl rfl Tryd.sizeOf23 rfl rfl rfl rfl (Nat.le_of_ble_eq_true rfl) rfl rfl ?_
          refine gops_nil ?_
          refine hN21 _ _ ?_
          refine gT [box b3 _, box b4 _, rowl _ _ _ _ _ _, fr] rfl ?_
          refine gfrom [(2, .slice _ _ _), (3, .pointer _)] ⟨rfl, rfl, trivial⟩ fun σ => ?_
          refine gret fun w1 hM => ?_
          refine ⟨_, res2 rfl (rt (v := .slice _ _ _) rfl) (rc 0 (cs := [_, _]) hM rfl rfl Tryd.isAgg23 Tryd.sizeOf23 rfl), ?_⟩
          have hFF : fileF text = ⟨2, -1⟩ := by rw [fileF, if_neg (fun h => h hc14), hsc, if_neg (fun h => h rfl), ← hrn, if_pos (by simp; omega)]
          exact ⟨_, _, [], emp, by rw [hFF], rfl, by rw [fileV, if_neg (by rw [hFF]; decide)]; rfl, fun _ _ _ h => (by cases h), (mem_nilrow ruleCells 32 2 hM).emp.dropTo 4 rfl⟩
        · 
          replace hc47 := of_decide_eq_false hc47
          refine gskip ?_
          refine hN19 _ _ ?_
          refine gfrom [(3, .pointer _), (5, .slice Av _ cv)] ⟨rfl, rfl, trivial⟩ fun σ => ?_
          refine gseq fun N22 hN22 => ?_
          refine greg ?_
          refine gop (y_move (v := .slice Av _ cv) rfl) rfl rfl rfl ?_
          refine gop (y_build (vs := []) (cells := #[.int .i64 0, .int .i64 0]) rfl bd23_) rfl rfl rfl ?_
          refine gop (y_assign (v := .slice Av _ cv) rfl) rfl rfl rfl ?_
          refine gop_store 0 (v := .agg #[_, _]) (cs' := #[_, _]) rfl rfl Tryd.sizeOf23 rfl rfl rfl rfl (Nat.le_of_ble_eq_true rfl) rfl rfl ?_
          refine gops_nil ?_
          refine hN22 _ _ ?_
          refine gT [box b3 _, box b4 _, rowl _ _ _ _ _ _, fr] rfl ?_
          refine gfrom [(2, .slice Av _ cv), (3, .pointer _)] ⟨rfl, rfl, trivial⟩ fun σ => ?_
          refine gret fun w1 hM => ?_
          refine ⟨_, res2 rfl (rt (v := .slice Av _ cv) rfl) (rc 0 (cs := [_, _]) hM rfl rfl Tryd.isAgg23 Tryd.sizeOf23 rfl), ?_⟩
          have hFF : fileF text = ⟨0, 0⟩ := by rw [fileF, if_neg (fun h => h hc14), hsc, if_neg (fun h => h rfl), ← hrn, if_neg (by simp; omega)]
          exact ⟨_, _, rn, fr, by rw [hFF], rfl, by rw [fileV, if_pos hFF, hrn], hfr, hM.dropTo 2 rfl⟩
end Go.Proofs.YtijpaljdclhehaaDoor
namespace Go.Proofs.YtijpaljdclhehaaDoor
open Go.RowKit Go.Cf
set_option maxRecDepth 10000
set_option maxHeartbeats 2000000 in
theorem ownersExample_any (w : World) : Calls Tryd.prog 19 #[] w fun e w' => e = .returned (.bool true) ∧ Below w.heap.size w w' := by
  refine gcalls Tryd.func19 rfl Tryd.ntmps19 (Nat.le_of_ble_eq_true rfl) ?_
  refine gfrom [] trivial fun σ => ?_
  refine gseq fun N1 hN1 => ?_
  refine greg ?_
  refine gop (y_assign (v := .bool _) rfl) rfl rfl rfl ?_
  refine gops_nil ?_
  refine hN1 _ _ ?_
  refine gfrom [] trivial fun σ => ?_
  refine gseq fun N2 hN2 => ?_
  refine greg ?_
  refine gop_lit (vs := [.string _, .string _, .string _]) (cells := #[_, _, _]) Tryd.underlying37 Tryd.sizeOf9 Tryd.zeroValue9 rfl (by decide) (by decide) rfl rfl rfl rfl (fun b6 hb6 => ?_)
  refine gop_got (fun v T' => ∃ v1 rs' fr lo, w.heap.size ≤ lo ∧ v = .tuple #[v1, fv ⟨0, 0⟩] ∧ T' = [rowl ruleCells lo 32 2 (v1) (rs'), fr] ∧ rls rs' = fileV exT ∧ ∀ w1, fr.ok w1 → ∀ a ∈ rs', RuleR w1 0 a) (e_call (vs := [.slice (some _) _ _]) Tryd.func22 rfl (by kernel_rfl) rfl) (fun w hM => by have hc := parseFile_any w (some ⟨b6, 0, none⟩) 3 exT ((Rdl.of_box 0 (f := strCells) (fun _ => rfl) hM rfl rfl).mono (Nat.zero_le _)) (by decide); rw [oex1] at hc; exact hc.mono fun _ _ ⟨v, T1, rs', fr, h1, h2, h3, h4, h5⟩ => ⟨_, T1, h1, ⟨v, rs', fr, _, hM.low.size, rfl, h2, h3, fun w1 ho a ha => (h4 w1 ho a ha).mono (Nat.zero_le _)⟩, h5⟩) rfl rfl rfl ?_
  rintro _ _ ⟨v7, rs7, fr7, lo7, hlo7, rfl, rfl, hrs7, hfr7⟩
  have hl7 : rs7.length = 2 := by have h8 := congrArg List.length hrs7; rw [oex2] at h8; simpa using h8
  refine gops_fact (fun w hM => row_form (hM.ok _ (List.mem_of_getElem? (i := 1) rfl))) ?_
  rintro ⟨A7, c7, rfl, hc7, hm7, hn7⟩
  refine gop (y_move (v := .tuple #[.slice A7 _ c7, .agg #[_, _]]) rfl) rfl rfl rfl ?_
  refine gop (y_extract (v := .slice _ _ _) rfl rfl) rfl rfl rfl ?_
  refine gop (y_extract (v := .agg #[_, _]) rfl rfl) rfl rfl rfl ?_
  refine gop_alloc (cs := #[.int .i64 0, .int .i64 0]) Tryd.zeroValue23 rfl rfl (fun b2 hb2 => ?_)
  refine gop (y_assign (v := .slice _ _ _) rfl) rfl rfl rfl ?_
  refine gop_store 3 (v := .agg #[_, _]) (cs' := #[_, _]) rfl rfl Tryd.sizeOf23 rfl rfl rfl rfl (Nat.le_of_ble_eq_true rfl) rfl rfl ?_
  refine gops_nil ?_
  refine hN2 _ _ ?_
  refine gT [box b6 _, rowl _ _ _ _ _ _, fr7, box b2 _] rfl ?_
  refine gfrom [(1, .slice _ _ _), (2, .pointer _)] ⟨rfl, rfl, trivial⟩ fun σ => ?_
  refine gseq fun N3 hN3 => ?_
  refine greg ?_
  refine gop (y_move (v := .slice _ _ _) rfl) rfl rfl rfl ?_
  refine gop_got (fun v T' => ∃ v1 lo, w.heap.size ≤ lo ∧ v = .tuple #[v1, fv (⟨0, 0⟩)] ∧ T' = [rowl intCells lo 3 1 (v1) ([1, 3])]) (e_call (vs := [.slice _ _ _, _]) Tryd.func18 rfl (by kernel_rfl) rfl) (fun w hM => by have hc := of_any w A7 c7 (rs7) ⟨(row_rdl (f := ruleCells) (fun _ => rfl) (hM.ok _ (List.mem_of_getElem? (i := 1) rfl))).mono (Nat.zero_le _), hfr7 w (hM.ok _ (List.mem_of_getElem? (i := 2) rfl)), ⟨hc7, hm7, hn7, Nat.le_trans (show rs7.length * 40 ≤ 80 by omega) (by decide)⟩⟩ exPa; rw [hrs7, oex3, oex4] at hc; exact hc.mono fun _ _ ⟨v, T1, h1, h2, h3⟩ => ⟨_, T1, h1, ⟨v, _, hM.low.size, rfl, h2⟩, h3⟩) rfl rfl rfl ?_
  rintro _ _ ⟨v12, lo12, hlo12, rfl, rfl⟩
  refine gops_fact (fun w hM => row_form (hM.ok _ (List.mem_of_getElem? (i := 4) rfl))) ?_
  rintro ⟨A12, c12, rfl, hc12, hm12, hn12⟩
  refine gops_mem _ (weak_lower 4 rfl hlo12) ?_
  refine gop (y_move (v := .tuple #[.slice A12 _ c12, .agg #[_, _]]) rfl) rfl rfl rfl ?_
  refine gop (y_extract (v := .slice _ _ _) rfl rfl) rfl rfl rfl ?_
  refine gop (y_extract (v := .agg #[_, _]) rfl rfl) rfl rfl rfl ?_
  refine gop_alloc (cs := #[.int .i64 0, .int .i64 0]) Tryd.zeroValue23 rfl rfl (fun b4 hb4 => ?_)
  refine gop (y_assign (v := .slice _ _ _) rfl) rfl rfl rfl ?_
  refine gop_store 5 (v := .agg #[_, _]) (cs' := #[_, _]) rfl rfl Tryd.sizeOf23 rfl rfl rfl rfl (Nat.le_of_ble_eq_true rfl) rfl rfl ?_
  refine gops_nil ?_
  refine hN3 _ _ ?_
  refine gT [box b6 _, rowl _ _ _ _ _ _, fr7, box b2 _, rowl _ _ _ _ _ _, box b4 _] rfl ?_
  refine gfrom [(1, .slice _ _ _), (2, .pointer _), (3, .slice _ _ _), (4, .pointer _)] ⟨rfl, rfl, rfl, rfl, trivial⟩ fun σ => ?_
  refine gseq fun N4 hN4 => ?_
  refine greg ?_
  refine gop (y_fieldAddr_box fa23_0 rfl) rfl rfl rfl ?_
  refine gop (y_load Tryd.isAgg3 rfl (cell_box 3 rfl rfl)) rfl rfl rfl ?_
  refine gop (y_eql rfl rfl) rfl rfl rfl ?_
  refine gop (y_move (v := .bool _) rfl) rfl rfl rfl ?_
  refine gop_if (want := true) rfl rfl rfl rfl rfl rfl (fun hg18 => ?_) (fun hg18 => ?_)
  · 
    have hg18d := of_decide_eq_true hg18
    refine gop (y_bare (y_fieldAddr_box fa23_0 rfl)) rfl rfl rfl ?_
    refine gop_on rfl rfl rfl rfl hg18 ?_
    refine gop (y_bare (y_load Tryd.isAgg3 rfl (cell_box 5 rfl rfl))) rfl rfl rfl ?_
    refine gop_on rfl rfl rfl rfl hg18 ?_
    refine gop (y_bare (y_eql rfl rfl)) rfl rfl rfl ?_
    refine gop (y_pick_t (v := .bool _) rfl hg18 rfl) rfl rfl rfl ?_
    refine gop (y_move (v := .bool _) rfl) rfl rfl rfl ?_
    refine gop_if (want := true) rfl rfl rfl rfl rfl rfl (fun hg23 => ?_) (fun hg23 => ?_)
    · 
      have hg23d := of_decide_eq_true hg23
      refine gop (y_bare (y_move (v := .slice _ _ _) rfl)) rfl rfl rfl ?_
      refine gop_on rfl rfl rfl rfl hg23 ?_
      refine gop (y_bare (y_len Tryd.underlying29 rfl)) rfl rfl rfl ?_
      refine gop_on rfl rfl rfl rfl hg23 ?_
      refine gop (y_bare (y_eql rfl rfl)) rfl rfl rfl ?_
      refine gop (y_pick_t (v := .bool _) rfl hg23 rfl) rfl rfl rfl ?_
      refine gop (y_move (v := .bool _) rfl) rfl rfl rfl ?_
      refine gop_if (want := true) rfl rfl rfl rfl rfl rfl (fun hg28 => ?_) (fun hg28 => ?_)
      · 
        have hg28d := of_decide_eq_true hg28
        refine gop (y_bare (y_move (v := .slice _ _ _) rfl)) rfl rfl rfl ?_
        refine gop_on rfl rfl rfl rfl hg28 ?_
        refine gop_lit (vs := [.int _ _, .int _ _]) (cells := #[_, _]) Tryd.underlying30 Tryd.sizeOf3 Tryd.zeroValue3 rfl (by decide) (by decide) rfl rfl rfl rfl (fun b30 hb30 => ?_)
        refine gop_on rfl rfl rfl rfl hg28 ?_
        refine gop_pure (e_call (vs := [.slice _ _ _, .slice (some _) _ _]) Tryd.func20 rfl (by kernel_rfl) rfl) (fun w hM => sameInts_any w _ _ _ _ [1, 3] [1, 3] ((row_rdl (f := intCells) (fun _ => rfl) (hM.ok _ (List.mem_of_getElem? (i := 4) rfl))).mono (Nat.zero_le _)) ((Rdl.of_box 6 (f := intCells) (fun _ => rfl) hM rfl rfl).mono (Nat.zero_le _)) (by decide)) rfl rfl rfl ?_
        refine gop (y_pick_t (v := .bool _) rfl hg28 rfl) rfl rfl rfl ?_
        refine gop (y_assign (v := .bool _) rfl) rfl rfl rfl ?_
        refine gops_nil ?_
        refine hN4 _ _ ?_
        refine gT [box b6 _, rowl _ _ _ _ _ _, fr7, box b2 _, rowl _ _ _ _ _ _, box b4 _, box b30 _] rfl ?_
        refine gfrom [(0, .bool _)] ⟨rfl, trivial⟩ fun σ => ?_
        refine gret fun w1 hM => ?_
        refine ⟨_, res1 rfl (rt (v := .bool _) rfl), ?_⟩
        exact ⟨rfl, hM.low⟩
      · 
         rw [hl7] at hg28; exact absurd hg28 (by decide)
    · 
       exact absurd hg23 (by decide)
  · 
     exact absurd hg18 (by decide)
end Go.Proofs.YtijpaljdclhehaaDoor
namespace Go.Cf
open Go.RowKit
def readP : Bs → List Int × Bool
  | [] => ([], true)
  | [_] => ([], false)
  | a :: d :: r => if a = 32 ∧ 48 ≤ d.toNat ∧ d.toNat ≤ 57 then (((d.toNat : Int) - 48) :: (readP r).1, (readP r).2) else ([], false)
theorem drop_bs {s : ByteArray} {i : Nat} (h : i < s.size) : ∃ b, (bsOf s).drop i = b :: (bsOf s).drop (i + 1) ∧ byteAt s i = b.toNat := by
  have hl : i < (bsOf s).length := by rw [bsOf_len]; exact h
  exact ⟨(bsOf s)[i], List.drop_eq_getElem_cons hl, (byte_of (s := s) (List.getElem?_eq_getElem hl)).2⟩
theorem refR_next {s : ByteArray} {i : Nat} (hi : i + 1 < s.size) (h : byteAt s i = 32) (h0 : 48 ≤ byteAt s (i + 1)) (h1 : byteAt s (i + 1) ≤ 57) : readP ((bsOf s).drop i) = (((byteAt s (i + 1) : Int) - 48) :: (readP ((bsOf s).drop (i + 2))).1, (readP ((bsOf s).drop (i + 2))).2) := by
  obtain ⟨b, h2, h3⟩ := drop_bs (show i < s.size by omega)
  obtain ⟨d, h4, h5⟩ := drop_bs hi
  rw [h2, h4, readP, if_pos ⟨UInt8.toNat_inj.1 (by rw [← h3, h]; rfl), by omega, by omega⟩, h5]
structure ReadIn (s : ByteArray) (n i : Nat) (us : List Int) : Prop where
  all : (readP ((bsOf s).drop n)).1 = us ++ (readP ((bsOf s).drop i)).1
  ok : (readP ((bsOf s).drop n)).2 = (readP ((bsOf s).drop i)).2
theorem ReadIn.zero (s : ByteArray) (n : Nat) : ReadIn s n n [] := ⟨rfl, rfl⟩
theorem ReadIn.next {s : ByteArray} {n i : Nat} {us : List Int} (h : ReadIn s n i us) (hi : i + 1 < s.size) (hb : byteAt s i = 32) (h0 : 48 ≤ byteAt s (i + 1)) (h1 : byteAt s (i + 1) ≤ 57) : ReadIn s n (i + 2) (us ++ [(byteAt s (i + 1) : Int) - 48]) := by
  have e := refR_next hi hb h0 h1
  exact ⟨by rw [h.all, e]; simp, by rw [h.ok, e]⟩
structure GroupC where
  pl : List Int
  A : Option Addr
  c : Nat
abbrev gpCells (a : GroupC) : List Value := [.slice a.A a.pl.length a.c]
theorem wide_gp : Wide gpCells 1 := fun _ => ⟨rfl, by simp [gpCells, Value.oneCell']⟩
structure GrR (w : World) (lo : Nat) (a : GroupC) : Prop where
  rd : Rdl w lo 1 intCells a.A a.pl
  len : a.pl.length ≤ a.c
  max : a.c ≤ maxLen
abbrev gps (l : List GroupC) : List (List Int) := l.map GroupC.pl
theorem grR_row {w : World} {base n c : Nat} {e : TypeId} {A : Option Addr} {us : List Int} (h : (rowl intCells base e 1 (.slice A n c) us).ok w) : GrR w base ⟨us, A, c⟩ := by
  obtain ⟨A', c', he, h1, h2, _⟩ := row_form h
  simp only [Value.slice.injEq] at he
  obtain ⟨rfl, -, rfl⟩ := he
  exact ⟨row_rdl (fun _ => rfl) h, h1, h2⟩
theorem GrR.mono {w : World} {lo lo' : Nat} {a : GroupC} (h : GrR w lo a) (hl : lo' ≤ lo) : GrR w lo' a := ⟨h.rd.mono hl, h.len, h.max⟩
theorem rdl_take {α : Type} {w : World} {lo size : Nat} {f : α → List Value} {A : Option Addr} {l : List α} (h : Rdl w lo size f A l) (k : Nat) : Rdl w lo size f A (l.take k) := fun hn => by
  have hn' : 0 < l.length := by
    rw [List.length_take] at hn; omega
  obtain ⟨ad, h1, h2, h3⟩ := h hn'
  refine ⟨ad, h1, h2, fun j x hx => h3 j x ?_⟩
  rw [List.getElem?_take] at hx
  split at hx
  · exact hx
  · cases hx
def hasI (l : List Int) (x : Int) : Bool := l.any (fun y => decide (x = y))
def meetsB (g U : List Int) : Bool := g.any (fun x => hasI U x)
def smallerL (a b : List Int) : Bool := decide (0 < a.length) && (decide (a.length < b.length) && !(a.any (fun u => !hasI b u)))
theorem hasI_mem {l : List Int} {x : Int} : hasI l x = true ↔ x ∈ l := by
  simp [hasI]
theorem meetsB_iff {a b : List Int} : meetsB a b = true ↔ ∃ x ∈ a, x ∈ b := by
  simp [meetsB, hasI_mem]
theorem smallerL_iff {a b : List Int} : smallerL a b = true ↔ 0 < a.length ∧ a.length < b.length ∧ ∀ x ∈ a, x ∈ b := by
  simp only [smallerL, Bool.and_eq_true, decide_eq_true_iff, Bool.not_eq_true', List.any_eq_false, Bool.not_eq_true', Bool.not_eq_false, hasI_mem]
def gAt (G : List (List Int)) (i : Nat) : List Int := G[i]?.getD []
theorem gAt_at {G : List (List Int)} {i : Nat} (h : i < G.length) : gAt G i = G[i] := by rw [gAt, List.getElem?_eq_getElem h]; rfl
def needG (G : List (List Int)) (i : Nat) : Bool := decide (0 < (gAt G i).length) && (!((G.take i).any (fun x => decide (x = gAt G i))) && !(G.any (fun x => smallerL x (gAt G i))))
def reqTo (G : List (List Int)) (k : Nat) : List (List Int) := ((List.range k).filter (needG G)).map (gAt G)
theorem reqTo_next (G : List (List Int)) (k : Nat) : reqTo G (k + 1) = reqTo G k ++ (if needG G k = true then [gAt G k] else []) := by
  unfold reqTo
  rw [List.range_succ, List.filter_append, List.map_append]
  congr 1
  by_cases h : needG G k = true
  · rw [if_pos h]; simp [h]
  · rw [if_neg h]; simp [h]
section
variable {G : List (List Int)} (hs : ∀ g ∈ G, g.Pairwise (· < ·))
theorem gAt_mem {i : Nat} (h : i < G.length) : gAt G i ∈ G := by rw [gAt_at h]; exact List.getElem_mem h
theorem needG_iff {i : Nat} : needG G i = true ↔ 0 < (gAt G i).length ∧ (∀ x ∈ G.take i, x ≠ gAt G i) ∧ ∀ x ∈ G, smallerL x (gAt G i) = false := by
  simp only [needG, Bool.and_eq_true, decide_eq_true_iff, Bool.not_eq_true', List.any_eq_false, Bool.not_eq_true]
include hs
omit hs in
theorem least {p : Nat → Prop} : ∀ n, p n → ∃ m, p m ∧ ∀ j, j < m → ¬ p j := by
  intro n
  induction n using Nat.strongRecOn with
  | _ n ih =>
    intro hp
    rcases Classical.em (∃ m, m < n ∧ p m) with ⟨m, h1, h2⟩ | h
    · exact ih m h1 h2
    · exact ⟨n, hp, fun j hj hpj => h ⟨j, hj, hpj⟩⟩
omit hs in
theorem req_mem {r : List Int} : r ∈ reqTo G G.length ↔ ∃ i, i < G.length ∧ needG G i = true ∧ r = gAt G i := by
  simp only [reqTo, List.mem_map, List.mem_filter, List.mem_range]
  constructor
  · rintro ⟨i, ⟨h1, h2⟩, rfl⟩; exact ⟨i, h1, h2, rfl⟩
  · rintro ⟨i, h1, h2, rfl⟩; exact ⟨i, ⟨h1, h2⟩, rfl⟩
omit hs in
theorem req_below : ∀ (m : Nat) (g : List Int), g.length ≤ m → g ∈ G → 0 < g.length → ∃ r ∈ reqTo G G.length, ∀ x ∈ r, x ∈ g
  | 0, g, h, _, h1 => by omega
  | m + 1, g, h, hg, h1 => by
    rcases Classical.em (∃ x ∈ G, smallerL x g = true) with ⟨x, hx, hxg⟩ | hn
    · obtain ⟨h2, h3, h4⟩ := smallerL_iff.1 hxg
      obtain ⟨r, hr, hsub⟩ := req_below m x (by omega) hx h2
      exact ⟨r, hr, fun y hy => h4 y (hsub y hy)⟩
    · obtain ⟨k, hk, hkg⟩ := List.getElem_of_mem hg
      obtain ⟨i, ⟨hi, hig⟩, hmin⟩ := least (p := fun j => j < G.length ∧ gAt G j = g) k ⟨hk, by rw [gAt_at hk, hkg]⟩
      refine ⟨g, req_mem.2 ⟨i, hi, needG_iff.2 ⟨by rw [hig]; exact h1, fun x hx e => ?_, fun x hx => ?_⟩, hig.symm⟩, fun x hx => hx⟩
      · obtain ⟨j, hj, rfl⟩ := List.getElem_of_mem hx
        rw [List.length_take] at hj
        rw [List.getElem_take] at e
        exact hmin j (by omega) ⟨by omega, by rw [gAt_at (by omega), e, hig]⟩
      · rw [hig, ← Bool.not_eq_true]; exact fun h2 => hn ⟨x, hx, h2⟩
omit hs in
theorem req_suff (U : List Int) : (reqTo G G.length).all (fun g => meetsB g U) = G.all (fun g => decide (g.length = 0) || meetsB g U) := by
  rw [Bool.eq_iff_iff, List.all_eq_true, List.all_eq_true]
  constructor
  · intro h g hg
    rw [Bool.or_eq_true, decide_eq_true_iff]
    rcases Nat.eq_zero_or_pos g.length with h0 | h0
    · exact .inl h0
    · obtain ⟨r, hr, hsub⟩ := req_below g.length g (Nat.le_refl _) hg h0
      obtain ⟨x, hx, hxU⟩ := meetsB_iff.1 (h r hr)
      exact .inr (meetsB_iff.2 ⟨x, hsub x hx, hxU⟩)
  · intro h r hr
    obtain ⟨i, hi, hn, rfl⟩ := req_mem.1 hr
    have h1 := h _ (gAt_mem hi)
    have h2 := (needG_iff.1 hn).1
    rw [decide_eq_false (by omega), Bool.false_or] at h1
    exact h1
end
theorem req_len (G : List (List Int)) (k : Nat) : (reqTo G k).length ≤ k := by
  unfold reqTo
  rw [List.length_map]
  exact Nat.le_trans (List.length_filter_le _ _) (by simp)
def badPath (_ : Nat) (p : ByteArray) : Int := if pathOk p = true then 0 else 12
def pathsF (ps : List ByteArray) : Fault := if (scan badPath ps).code = 0 then ⟨0, 0⟩ else ⟨12, -3 - (scan badPath ps).index⟩
def reqF (rs : List Rule) (ps : List ByteArray) : Fault := if rulesF rs ≠ ⟨0, 0⟩ then rulesF rs else if 24 < ps.length then ⟨2, -2⟩ else pathsF ps
def groupsL (rs : List Rule) (ps : List ByteArray) : List (List Int) := ps.map (findU rs)
def reqV (rs : List Rule) (ps : List ByteArray) : List (List Int) := if reqF rs ps = ⟨0, 0⟩ then reqTo (groupsL rs ps) ps.length else []
theorem pathsF_ok {ps : List ByteArray} (h : ∀ j (h : j < ps.length), pathOk ps[j] = true) : pathsF ps = ⟨0, 0⟩ := by
  have h1 : scan badPath ps = ⟨0, 0⟩ := scan_ok fun j hj => by rw [badPath, if_pos (h j hj)]
  rw [pathsF, h1]; rfl
theorem pathsF_at {ps : List ByteArray} {k : Nat} (hk : k < ps.length) (h : ∀ j (h : j < ps.length), j < k → pathOk ps[j] = true) (hb : pathOk ps[k] = false) : pathsF ps = ⟨12, -3 - k⟩ := by
  have e : badPath k ps[k] = 12 := by rw [badPath, hb]; rfl
  have h1 := scan_at (f := badPath) hk (fun j hj hjk => by rw [badPath, if_pos (h j hj hjk)]) (by rw [e]; decide)
  rw [pathsF, h1, e, if_neg (show ¬ (12 : Int) = 0 by decide)]
theorem pathsF_zero {ps : List ByteArray} (h : (pathsF ps).code = 0) : ∀ p ∈ ps, pathOk p = true := by
  unfold pathsF at h
  split at h
  · rename_i h1
    have h2 := scan_code_eq h1
    intro p hp
    obtain ⟨j, hj, rfl⟩ := List.getElem_of_mem hp
    have h3 := scan_zero.1 h2 j hj
    unfold badPath at h3
    split at h3
    · assumption
    · cases h3
  · cases h
theorem reqF_code {rs : List Rule} {ps : List ByteArray} (h : (reqF rs ps).code = 0) : reqF rs ps = ⟨0, 0⟩ ∧ rulesF rs = ⟨0, 0⟩ ∧ ps.length ≤ 24 ∧ ∀ p ∈ ps, pathOk p = true := by
  unfold reqF at h ⊢
  by_cases h1 : rulesF rs = ⟨0, 0⟩
  · rw [if_neg (fun h2 => h2 h1)] at h ⊢
    by_cases h2 : 24 < ps.length
    · rw [if_pos h2] at h; cases h
    · rw [if_neg h2] at h ⊢
      have h3 := pathsF_zero h
      exact ⟨pathsF_ok fun j hj => h3 _ (List.getElem_mem hj), h1, by omega, h3⟩
  · rw [if_pos h1] at h; exact absurd (rulesF_code h) h1
theorem groups_len (rs : List Rule) (ps : List ByteArray) : (groupsL rs ps).length = ps.length := by simp [groupsL]
theorem law24_plain {rs : List Rule} {ps : List ByteArray} (h : (reqF rs ps).code = 0) (U : List Int) : (reqV rs ps).all (fun g => meetsB g U) = ps.all (fun p => decide ((findU rs p).length = 0) || meetsB (findU rs p) U) := by
  rw [reqV, if_pos (reqF_code h).1, ← groups_len rs ps, req_suff U, groupsL, List.all_map]
  rfl
end Go.Cf
namespace Go.Cf
open Go.RowKit
def idxP {α : Type} (p : α → Bool) (l : List α) : Int := if l.any p = true then ((l.findIdx p : Nat) : Int) else -1
theorem idxP_hit {α : Type} {p : α → Bool} {l : List α} {k : Nat} (hk : k < l.length) (h : ∀ j (hj : j < l.length), j < k → p l[j] = false) (hp : p l[k] = true) : idxP p l = (k : Int) := by
  have h1 : l.any p = true := List.any_eq_true.2 ⟨_, List.getElem_mem hk, hp⟩
  rw [idxP, if_pos h1, (List.findIdx_eq hk).2 ⟨hp, fun j hj => h j (by omega) hj⟩]
theorem idxP_none {α : Type} {p : α → Bool} {l : List α} (h : ∀ j (hj : j < l.length), p l[j] = false) : idxP p l = -1 := by
  have h1 : l.any p = false := by
    rw [List.any_eq_false]
    intro x hx
    obtain ⟨j, hj, rfl⟩ := List.getElem_of_mem hx
    simp [h j hj]
  rw [idxP, h1, if_neg (by simp)]
theorem idxP_any {α : Type} (p : α → Bool) (l : List α) : decide ((0 : Int) ≤ idxP p l) = l.any p := by
  unfold idxP
  cases l.any p with
  | true => rw [if_pos rfl]; exact decide_eq_true (by omega)
  | false => rw [if_neg (by simp)]; rfl
theorem needG_gs {gs : List GroupC} {k : Nat} (hk : k < gs.length) : needG (gps gs) k = (decide (0 < gs[k].pl.length) && (!((gs.take k).any (fun a => decide (a.pl = gs[k].pl))) && !(gs.any (fun a => smallerL a.pl gs[k].pl)))) := by
  have e : gAt (gps gs) k = gs[k].pl := by rw [gAt_at (by simpa using hk)]; simp
  unfold needG
  rw [e, List.any_map, ← List.map_take, List.any_map]
  rfl
theorem need_yes {gs : List GroupC} {k : Nat} (hk : k < gs.length) (h1 : 0 < gs[k].pl.length) (h2 : (gs.take k).any (fun a => decide (a.pl = gs[k].pl)) = false) (h3 : gs.any (fun a => smallerL a.pl gs[k].pl) = false) : needG (gps gs) k = true := by
  rw [needG_gs hk, h2, h3, decide_eq_true h1]; rfl
theorem need_no1 {gs : List GroupC} {k : Nat} (hk : k < gs.length) (h1 : ¬ 0 < gs[k].pl.length) : needG (gps gs) k = false := by
  rw [needG_gs hk, decide_eq_false h1]; rfl
theorem need_no2 {gs : List GroupC} {k : Nat} (hk : k < gs.length) (h2 : (gs.take k).any (fun a => decide (a.pl = gs[k].pl)) = true) : needG (gps gs) k = false := by
  rw [needG_gs hk, h2]; simp
theorem need_no3 {gs : List GroupC} {k : Nat} (hk : k < gs.length) (h3 : gs.any (fun a => smallerL a.pl gs[k].pl) = true) : needG (gps gs) k = false := by
  rw [needG_gs hk, h3]; simp
theorem req_gs_yes {gs og : List GroupC} {k : Nat} (hk : k < gs.length) (ho : gps og = reqTo (gps gs) k) (hn : needG (gps gs) k = true) : gps (og ++ [gs[k]]) = reqTo (gps gs) (k + 1) := by
  have e : gAt (gps gs) k = gs[k].pl := by rw [gAt_at (by simpa using hk)]; simp
  show List.map _ _ = _
  rw [List.map_append, reqTo_next, hn, if_pos rfl, ← ho, e]; rfl
theorem req_gs_no {gs og : List GroupC} {k : Nat} (ho : gps og = reqTo (gps gs) k) (hn : needG (gps gs) k = false) : gps og = reqTo (gps gs) (k + 1) := by
  rw [reqTo_next, hn, if_neg (by simp), ← ho, List.append_nil]
theorem hasI_yes {b : List Int} {j : Nat} {x : Int} (h : j < b.length) (e : x = b[j]) : hasI b x = true := hasI_mem.2 (by rw [e]; exact List.getElem_mem h)
theorem hasI_no {b : List Int} {x : Int} (h : ∀ j (hj : j < b.length), x ≠ b[j]) : hasI b x = false := by
  rw [← Bool.not_eq_true, hasI_mem]
  intro hx
  obtain ⟨j, hj, e⟩ := List.getElem_of_mem hx
  exact h j hj e.symm
theorem meetsB_yes {g U : List Int} {k : Nat} (h : k < g.length) (e : hasI U g[k] = true) : meetsB g U = true := List.any_eq_true.2 ⟨_, List.getElem_mem h, e⟩
theorem meetsB_no {g U : List Int} (h : ∀ k (hk : k < g.length), hasI U g[k] = false) : meetsB g U = false := by
  unfold meetsB
  rw [List.any_eq_false]
  intro x hx
  obtain ⟨j, hj, rfl⟩ := List.getElem_of_mem hx
  simp [h j hj]
end Go.Cf
namespace Go.Cf
open Go.RowKit
theorem Mem.cell {w0 w : World} {T : List Reg} (hM : Mem w0 T w) (i : Nat) {b off : Nat} {cs : Array Value} {e : TypeId} {fz : Nat × Nat} {v : Value} (hi : T[i]? = some (box b (.cells cs e fz))) (h : cs[off]? = some v) : w.cell? ⟨b, off, none⟩ = some v := cell_box i hi h w hM
end Go.Cf
namespace Go.Cf
theorem all_next {α : Type} {l : List α} {f : α → Bool} {k : Nat} (h : k < l.length) : (l.take (k + 1)).all f = ((l.take k).all f && f l[k]) := by
  rw [List.take_succ_eq_append_getElem h, List.all_append]; simp
theorem of_ok {rs : List Rule} {p : ByteArray} (h : rulesF rs = ⟨0, 0⟩) (hp : pathOk p = true) : ofF rs p = ⟨0, 0⟩ ∧ ofV rs p = findU rs p := by
  constructor
  · rw [ofF, if_neg (fun h1 => h1 h), hp]; rfl
  · rw [ofV, if_pos ⟨h, hp⟩]
end Go.Cf
namespace Go.Cf
open Go.RowKit
def Reading (text : List ByteArray) (k : Nat) (p : Fault) (l : List Rule) : Prop :=
  (p = ⟨0, 0⟩ ∧ linesF text = ⟨0, 0⟩ ∧ (∀ j (h : j < text.length), j < k → badL text[j] = 0) ∧ l = readL (text.take k)) ∨ (p.code ≠ 0 ∧ p = fileF text)
section
variable {text : List ByteArray} {k : Nat} {p : Fault} {l : List Rule}
theorem Reading.zero (text : List ByteArray) : Reading text 0 (linesF text) [] := by
  by_cases h : linesF text = ⟨0, 0⟩
  · exact .inl ⟨h, h, fun _ _ h => absurd h (by omega), rfl⟩
  · exact .inr ⟨fun h1 => h (linesF_code h1), by rw [fileF, if_pos h]⟩
theorem Reading.good (h : Reading text k p l) (hp : p.code = 0) : p = ⟨0, 0⟩ ∧ linesF text = ⟨0, 0⟩ ∧ (∀ j (h : j < text.length), j < k → badL text[j] = 0) ∧ l = readL (text.take k) := by
  rcases h with h | h
  · exact h
  · exact absurd hp h.1
theorem Reading.skip (h : Reading text k p l) (hp : p.code = 0) (hk : k < text.length) (hs : skipL text[k] = true) : Reading text (k + 1) p l := by
  obtain ⟨h1, h2, h3, h4⟩ := h.good hp
  refine .inl ⟨h1, h2, fun j hj hjk => ?_, by rw [readL_take hk, hs]; simpa using h4⟩
  rcases Nat.lt_succ_iff_lt_or_eq.1 hjk with h5 | rfl
  · exact h3 j hj h5
  · rw [badL, if_pos hs]
theorem Reading.done2 (h : Reading text k p l) (hst : ¬ (k < text.length ∧ p.code = 0)) (hp : p.code = 0) (hl : ¬ 20 < l.length) : fileF text = p ∧ l = fileV text := by
  obtain ⟨h1, h2, h3, h4⟩ := h.good hp
  have hk : ¬ k < text.length := fun h5 => hst ⟨h5, hp⟩
  have hsc : scan (fun _ s => badL s) text = ⟨0, 0⟩ := scan_ok fun j hj => h3 j hj (by omega)
  rw [List.take_of_length_le (by omega)] at h4
  have hF : fileF text = ⟨0, 0⟩ := by rw [fileF, if_neg (fun h5 => h5 h2), hsc, if_neg (fun h5 => h5 rfl), if_neg (by rw [← h4]; exact hl)]
  exact ⟨hF.trans h1.symm, by rw [fileV, if_pos hF, h4]⟩
theorem Reading.done3 (h : Reading text k p l) (hp : p.code ≠ 0) : fileF text = p := by
  rcases h with h | h
  · exact absurd (by rw [h.1]) hp
  · exact h.2.symm
theorem Reading.done (h : Reading text k p l) (hst : ¬ (k < text.length ∧ p.code = 0)) (hl : ¬ (p.code = 0 ∧ 20 < l.length)) : fileF text = p ∧ (p.code = 0 → l = fileV text) := by
  by_cases hp : p.code = 0
  · have := h.done2 hst hp (fun h1 => hl ⟨hp, h1⟩)
    exact ⟨this.1, fun _ => this.2⟩
  · exact ⟨h.done3 hp, fun h1 => absurd h1 hp⟩
end
def capF (ps : List ByteArray) : Fault := if 24 < ps.length then ⟨2, -2⟩ else ⟨0, 0⟩
def Checking (rs : List Rule) (ps : List ByteArray) (k : Nat) (q : Fault) : Prop :=
  (q = ⟨0, 0⟩ ∧ ps.length ≤ 24 ∧ ∀ j (h : j < ps.length), j < k → pathOk ps[j] = true) ∨ (q.code ≠ 0 ∧ q = reqF rs ps)
section
variable {rs : List Rule} {ps : List ByteArray} {k : Nat} {q : Fault}
theorem Checking.zero (h : rulesF rs = ⟨0, 0⟩) : Checking rs ps 0 (capF ps) := by
  unfold capF
  split
  · rename_i h1
    exact .inr ⟨by decide, by rw [reqF, if_neg (fun h2 => h2 h), if_pos h1]⟩
  · exact .inl ⟨rfl, by omega, fun _ _ h => absurd h (by omega)⟩
theorem Checking.good (h : Checking rs ps k q) (hq : q.code = 0) : q = ⟨0, 0⟩ ∧ ps.length ≤ 24 ∧ ∀ j (h : j < ps.length), j < k → pathOk ps[j] = true := by
  rcases h with h | h
  · exact h
  · exact absurd hq h.1
theorem Checking.ok (h : Checking rs ps k q) (hq : q.code = 0) (hk : k < ps.length) (hp : pathOk ps[k] = true) : Checking rs ps (k + 1) q := by
  obtain ⟨h1, h2, h3⟩ := h.good hq
  refine .inl ⟨h1, h2, fun j hj hjk => ?_⟩
  rcases Nat.lt_succ_iff_lt_or_eq.1 hjk with h5 | rfl
  · exact h3 j hj h5
  · exact hp
theorem Checking.stop (h : Checking rs ps k q) (hr : rulesF rs = ⟨0, 0⟩) (hst : ¬ (k < ps.length ∧ q.code = 0)) : reqF rs ps = q := by
  rcases h with h | h
  · obtain ⟨h1, h2, h3⟩ := h
    have hk : ¬ k < ps.length := fun h6 => hst ⟨h6, by rw [h1]⟩
    rw [reqF, if_neg (fun h5 => h5 hr), if_neg (by omega), pathsF_ok (fun j hj => h3 j hj (by omega)), h1]
  · exact h.2.symm
end
end Go.Cf
namespace Go.Proofs.YtijpaljdclhehaaDoor
open Go.RowKit Go.Cf
set_option maxRecDepth 10000
set_option maxHeartbeats 1000000 in
theorem indexI_any (w : World) (A : Option Addr) (c : Nat) (l : List Int) (hl : Rdl w 0 1 intCells A l) (hn : l.length ≤ maxLen) (x : Int) : Calls Tryd.prog 94 #[.slice A l.length c, .int .i64 x] w fun e w' => e = .returned (.int .i64 (idxP (fun y => decide (x = y)) l)) ∧ Below w.heap.size w w' := by
  unfold maxLen at hn
  refine gcalls Tryd.func94 rfl Tryd.ntmps94 (Nat.le_of_ble_eq_true rfl) ?_
  refine gfrom [(0, .slice _ _ _), (1, .int _ _)] ⟨rfl, rfl, trivial⟩ fun σ => ?_
  refine gseq fun N1 hN1 => ?_
  refine greg ?_
  refine gop (y_assign (v := .int _ _) rfl) rfl rfl rfl ?_
  refine gops_nil ?_
  refine hN1 _ _ ?_
  refine gfrom [(0, .slice _ _ _), (1, .int _ _)] ⟨rfl, rfl, trivial⟩ fun σ => ?_
  refine gseq fun N2 hN2 => ?_
  refine gseq fun N3 hN3 => ?_
  refine greg ?_
  refine gop (y_move (v := .slice _ _ _) rfl) rfl rfl rfl ?_
  refine gop (y_len Tryd.underlying30 rfl) rfl rfl rfl ?_
  refine gop (y_move (v := .int _ _) rfl) rfl rfl rfl ?_
  refine gops_nil ?_
  refine hN3 _ _ ?_
  refine gfrom [(0, .slice _ _ _), (1, .int _ _), (7, .int _ _), (8, .int _ _)] ⟨rfl, rfl, rfl, rfl, trivial⟩ fun σ => ?_
  refine gblock ?_
  refine gfrom2 [(8, .int _ _)] [(0, .slice _ _ _), (1, .int _ _), (7, .int _ _)] ⟨rfl, trivial⟩ ⟨rfl, rfl, rfl, trivial⟩ fun σ => ?_
  refine gloop2 (G := Nat) (fun k => k ≤ l.length ∧ ∀ j (h : j < l.length), j < k → decide (x = l[j]) = false) (fun k => l.length - k) (fun k => [(8, .int .i64 (k : Int))]) (fun k => []) (0) ?h0 ⟨rfl, trivial⟩ ⟨rfl, rfl, rfl, trivial⟩ rfl ?round
  case h0 => exact ⟨Nat.zero_le _, fun _ _ h => absurd h (by omega)⟩
  case round =>
    intro k hφ σ
    obtain ⟨hk, hz⟩ := hφ
    refine gseq fun N4 hN4 => ?_
    refine greg ?_
    refine gop (y_lss rfl rfl) rfl rfl rfl ?_
    refine gops_nil ?_
    refine hN4 _ _ ?_
    refine gfrom [(0, .slice _ _ _), (1, .int _ _), (7, .int _ _), (8, .int _ _), (9, .bool _)] ⟨rfl, rfl, rfl, rfl, rfl, trivial⟩ fun σ => ?_
    refine gseq fun N5 hN5 => ?_
    refine gcond (b := _) rfl (fun hc9 => ?_) (fun hc9 => ?_)
    · 
      replace hc9 := of_decide_eq_true hc9
      have hk1 : k < l.length := by omega
      obtain ⟨ad, rfl, -, hca⟩ := hl.at_ hk1
      refine gskip ?_
      refine hN5 _ _ ?_
      refine gfrom [(0, .slice _ _ _), (1, .int _ _), (7, .int _ _), (8, .int _ _)] ⟨rfl, rfl, rfl, rfl, trivial⟩ fun σ => ?_
      refine gseq fun N6 hN6 => ?_
      refine gblock ?_
      refine gseq fun N7 hN7 => ?_
      refine greg ?_
      refine gop (y_move (v := .int _ _) rfl) rfl rfl rfl ?_
      refine gop (y_assign (v := .int _ _) rfl) rfl rfl rfl ?_
      refine gops_nil ?_
      refine hN7 _ _ ?_
      refine gfrom [(0, .slice _ _ _), (1, .int _ _), (5, .int _ _), (7, .int _ _), (8, .int _ _)] ⟨rfl, rfl, rfl, rfl, rfl, trivial⟩ fun σ => ?_
      refine gseq fun N8 hN8 => ?_
      refine greg ?_
      refine gop (y_move (v := .int _ _) rfl) rfl rfl rfl ?_
      refine gop (y_move (v := .slice _ _ _) rfl) rfl rfl rfl ?_
      refine gop (y_move (v := .int _ _) rfl) rfl rfl rfl ?_
      refine gop (y_indexAddr (m := k) Tryd.underlying30 Tryd.sizeOf3 rfl rfl (by omega) (by omega) (by omega)) rfl rfl rfl ?_
      refine gop (y_load Tryd.isAgg3 rfl (cell_base (hca 0 _ rfl))) rfl rfl rfl ?_
      refine gop (y_eql rfl rfl) rfl rfl rfl ?_
      refine gops_nil ?_
      refine hN8 _ _ ?_
      refine gfrom [(0, .slice _ _ _), (1, .int _ _), (5, .int _ _), (7, .int _ _), (8, .int _ _), (16, .bool _)] ⟨rfl, rfl, rfl, rfl, rfl, rfl, trivial⟩ fun σ => ?_
      refine gcond (b := _) rfl (fun hc16 => ?_) (fun hc16 => ?_)
      · 
        replace hc16 := of_decide_eq_true hc16
        refine gseq fun N9 hN9 => ?_
        refine greg ?_
        refine gop (y_move (v := .int _ _) rfl) rfl rfl rfl ?_
        refine gop (y_assign (v := .int _ _) rfl) rfl rfl rfl ?_
        refine gops_nil ?_
        refine hN9 _ _ ?_
        refine gfrom [(4, .int _ _)] ⟨rfl, trivial⟩ fun σ => ?_
        refine gret fun w1 hM => ?_
        refine ⟨_, res1 rfl (rt (v := .int _ _) rfl), ?_⟩
        exact ⟨by rw [idxP_hit (p := fun y => decide (x = y)) hk1 hz (decide_eq_true hc16)], hM.low⟩
      · 
        replace hc16 := of_decide_eq_false hc16
        refine gskip ?_
        refine hN6 _ _ ?_
        refine gfrom [(0, .slice _ _ _), (1, .int _ _), (7, .int _ _), (8, .int _ _)] ⟨rfl, rfl, rfl, rfl, trivial⟩ fun σ => ?_
        refine greg ?_
        refine gop (y_add rfl rfl ⟨by omega, by omega⟩) rfl rfl rfl ?_
        refine gop (y_move (v := .int _ _) rfl) rfl rfl rfl ?_
        refine gops_nil ?_
        refine gnext2 (k + 1) (by omega) (⟨by omega, fun j h hj => by rcases Nat.lt_succ_iff_lt_or_eq.1 hj with h1 | rfl; exact hz j h h1; exact decide_eq_false hc16⟩) ⟨rfl, trivial⟩ ⟨rfl, rfl, rfl, trivial⟩ ⟨_, rfl⟩
    · 
      replace hc9 := of_decide_eq_false hc9
      have hI := idxP_none (p := fun y => decide (x = y)) (l := l) (fun j hj => hz j hj (by omega))
      refine gexit ?_
      refine hN2 _ _ ?_
      refine gfrom [] trivial fun σ => ?_
      refine gseq fun N10 hN10 => ?_
      refine greg ?_
      refine gop (y_assign (v := .int _ _) rfl) rfl rfl rfl ?_
      refine gops_nil ?_
      refine hN10 _ _ ?_
      refine gfrom [(4, .int _ _)] ⟨rfl, trivial⟩ fun σ => ?_
      refine gret fun w1 hM => ?_
      refine ⟨_, res1 rfl (rt (v := .int _ _) rfl), ?_⟩
      exact ⟨by rw [hI], hM.low⟩
set_option maxHeartbeats 1000000 in
theorem containsI_any (w : World) (A : Option Addr) (c : Nat) (l : List Int) (hl : Rdl w 0 1 intCells A l) (hn : l.length ≤ maxLen) (x : Int) : Calls Tryd.prog 76 #[.slice A l.length c, .int .i64 x] w fun e w' => e = .returned (.bool (hasI l x)) ∧ Below w.heap.size w w' := by
  refine gcalls Tryd.func76 rfl Tryd.ntmps76 (Nat.le_of_ble_eq_true rfl) ?_
  refine gfrom [(0, .slice _ _ _), (1, .int _ _)] ⟨rfl, rfl, trivial⟩ fun σ => ?_
  refine gseq fun N1 hN1 => ?_
  refine greg ?_
  refine gop (y_assign (v := .bool _) rfl) rfl rfl rfl ?_
  refine gops_nil ?_
  refine hN1 _ _ ?_
  refine gfrom [(0, .slice _ _ _), (1, .int _ _)] ⟨rfl, rfl, trivial⟩ fun σ => ?_
  refine gseq fun N2 hN2 => ?_
  refine greg ?_
  refine gop (y_move (v := .slice _ _ _) rfl) rfl rfl rfl ?_
  refine gop (y_move (v := .int _ _) rfl) rfl rfl rfl ?_
  refine gop_pure (e_call (vs := [.slice _ _ _, .int _ _]) Tryd.func94 rfl (by kernel_rfl) rfl) (fun w hM => indexI_any w A c l (hl.base hM) hn x) rfl rfl rfl ?_
  refine gop (y_geq rfl rfl) rfl rfl rfl ?_
  refine gop (y_assign (v := .bool _) rfl) rfl rfl rfl ?_
  refine gops_nil ?_
  refine hN2 _ _ ?_
  refine gfrom [(4, .bool _)] ⟨rfl, trivial⟩ fun σ => ?_
  refine gret fun w1 hM => ?_
  refine ⟨_, res1 rfl (rt (v := .bool _) rfl), ?_⟩
  exact ⟨by rw [idxP_any]; rfl, hM.low⟩
set_option maxHeartbeats 1000000 in
theorem smaller1_any (w : World) (u : Int) (bg : Nat) (A : Option Addr) (c : Nat) (l : List Int) (hbox : w.cell? ⟨bg, 0, none⟩ = some (.slice A l.length c)) (hl : Rdl w 0 1 intCells A l) (hn : l.length ≤ maxLen) : Calls Tryd.prog 75 #[.int .i64 u, .pointer (some ⟨bg, 0, none⟩)] w fun e w' => e = .returned (.bool (!hasI l u)) ∧ Below w.heap.size w w' := by
  refine gcalls Tryd.func75 rfl Tryd.ntmps75 (Nat.le_of_ble_eq_true rfl) ?_
  refine gfrom [(0, .int _ _), (1, .pointer (some ⟨bg, 0, none⟩))] ⟨rfl, rfl, trivial⟩ fun σ => ?_
  refine gseq fun N1 hN1 => ?_
  refine greg ?_
  refine gop (y_assign (v := .bool _) rfl) rfl rfl rfl ?_
  refine gops_nil ?_
  refine hN1 _ _ ?_
  refine gfrom [(0, .int _ _), (1, .pointer (some ⟨bg, 0, none⟩))] ⟨rfl, rfl, trivial⟩ fun σ => ?_
  refine gseq fun N2 hN2 => ?_
  refine greg ?_
  refine gop (y_load (v := .slice A l.length c) Tryd.isAgg30 rfl (cell_base hbox)) rfl rfl rfl ?_
  refine gop (y_move (v := .int _ _) rfl) rfl rfl rfl ?_
  refine gop_pure (e_call (vs := [.slice _ _ _, .int _ _]) Tryd.func76 rfl (by kernel_rfl) rfl) (fun w hM => containsI_any w A c l (hl.base hM) hn u) rfl rfl rfl ?_
  refine gop (y_not rfl) rfl rfl rfl ?_
  refine gop (y_assign (v := .bool _) rfl) rfl rfl rfl ?_
  refine gops_nil ?_
  refine hN2 _ _ ?_
  refine gfrom [(3, .bool _)] ⟨rfl, trivial⟩ fun σ => ?_
  refine gret fun w1 hM => ?_
  refine ⟨_, res1 rfl (rt (v := .bool _) rfl), ?_⟩
  exact ⟨rfl, hM.low⟩
set_option maxHeartbeats 1000000 in
theorem idxFuncI_any (w : World) (A : Option Addr) (c : Nat) (l : List Int) (hl : Rdl w 0 1 intCells A l) (hn : l.length ≤ maxLen) (gf : FuncId) (fn : Func) (hgf : Tryd.prog.funcs[gf]? = some fn) (hgb : fn.body.isSome = true) (hgn : (fn.name == "runtime.NumGoroutine") = false) (cs : List Value) (p : Int → Bool) (hcl : ∀ k (h : k < l.length) w1, Below w.heap.size w w1 → Calls Tryd.prog gf (([.int .i64 l[k]] : List Value) ++ cs).toArray w1 (fun e w2 => e = .returned (.bool (p l[k])) ∧ Below w1.heap.size w1 w2)) : Calls Tryd.prog 93 #[.slice A l.length c, .func (.func gf) #[] cs.toArray] w fun e w' => e = .returned (.int .i64 (idxP p l)) ∧ Below w.heap.size w w' := by
  unfold maxLen at hn
  refine gcalls Tryd.func93 rfl Tryd.ntmps93 (Nat.le_of_ble_eq_true rfl) ?_
  refine gfrom [(0, .slice _ _ _), (1, .func (.func gf) #[] cs.toArray)] ⟨rfl, rfl, trivial⟩ fun σ => ?_
  refine gseq fun N1 hN1 => ?_
  refine greg ?_
  refine gop (y_assign (v := .int _ _) rfl) rfl rfl rfl ?_
  refine gops_nil ?_
  refine hN1 _ _ ?_
  refine gfrom [(0, .slice _ _ _), (1, .func (.func gf) #[] cs.toArray)] ⟨rfl, rfl, trivial⟩ fun σ => ?_
  refine gseq fun N2 hN2 => ?_
  refine gseq fun N3 hN3 => ?_
  refine greg ?_
  refine gop (y_move (v := .slice _ _ _) rfl) rfl rfl rfl ?_
  refine gop (y_len Tryd.underlying30 rfl) rfl rfl rfl ?_
  refine gop (y_move (v := .int _ _) rfl) rfl rfl rfl ?_
  refine gops_nil ?_
  refine hN3 _ _ ?_
  refine gfrom [(0, .slice _ _ _), (1, .func (.func gf) #[] cs.toArray), (7, .int _ _), (8, .int _ _)] ⟨rfl, rfl, rfl, rfl, trivial⟩ fun σ => ?_
  refine gblock ?_
  refine gfrom2 [(8, .int _ _)] [(0, .slice _ _ _), (1, .func (.func gf) #[] cs.toArray), (7, .int _ _)] ⟨rfl, trivial⟩ ⟨rfl, rfl, rfl, trivial⟩ fun σ => ?_
  refine gloop2 (G := Nat) (fun k => k ≤ l.length ∧ ∀ j (h : j < l.length), j < k → p l[j] = false) (fun k => l.length - k) (fun k => [(8, .int .i64 (k : Int))]) (fun k => []) (0) ?h0 ⟨rfl, trivial⟩ ⟨rfl, rfl, rfl, trivial⟩ rfl ?round
  case h0 => exact ⟨Nat.zero_le _, fun _ _ h => absurd h (by omega)⟩
  case round =>
    intro k hφ σ
    obtain ⟨hk, hz⟩ := hφ
    refine gseq fun N4 hN4 => ?_
    refine greg ?_
    refine gop (y_lss rfl rfl) rfl rfl rfl ?_
    refine gops_nil ?_
    refine hN4 _ _ ?_
    refine gfrom [(0, .slice _ _ _), (1, .func (.func gf) #[] cs.toArray), (7, .int _ _), (8, .int _ _), (9, .bool _)] ⟨rfl, rfl, rfl, rfl, rfl, trivial⟩ fun σ => ?_
    refine gseq fun N5 hN5 => ?_
    refine gcond (b := _) rfl (fun hc9 => ?_) (fun hc9 => ?_)
    · 
      replace hc9 := of_decide_eq_true hc9
      have hk1 : k < l.length := by omega
      obtain ⟨ad, rfl, -, hca⟩ := hl.at_ hk1
      refine gskip ?_
      refine hN5 _ _ ?_
      refine gfrom [(0, .slice _ _ _), (1, .func (.func gf) #[] cs.toArray), (7, .int _ _), (8, .int _ _)] ⟨rfl, rfl, rfl, rfl, trivial⟩ fun σ => ?_
      refine gseq fun N6 hN6 => ?_
      refine gblock ?_
      refine gseq fun N7 hN7 => ?_
      refine greg ?_
      refine gop (y_move (v := .int _ _) rfl) rfl rfl rfl ?_
      refine gop (y_assign (v := .int _ _) rfl) rfl rfl rfl ?_
      refine gops_nil ?_
      refine hN7 _ _ ?_
      refine gfrom [(0, .slice _ _ _), (1, .func (.func gf) #[] cs.toArray), (5, .int _ _), (7, .int _ _), (8, .int _ _)] ⟨rfl, rfl, rfl, rfl, rfl, trivial⟩ fun σ => ?_
      refine gseq fun N8 hN8 => ?_
      refine greg ?_
      refine gop (y_move (v := .func (.func gf) #[] cs.toArray) rfl) rfl rfl rfl ?_
      refine gop (y_move (v := .slice _ _ _) rfl) rfl rfl rfl ?_
      refine gop (y_move (v := .int _ _) rfl) rfl rfl rfl ?_
      refine gop (y_indexAddr (m := k) Tryd.underlying30 Tryd.sizeOf3 rfl rfl (by omega) (by omega) (by omega)) rfl rfl rfl ?_
      refine gop (y_load Tryd.isAgg3 rfl (cell_base (hca 0 _ rfl))) rfl rfl rfl ?_
      refine gop_pure (e_callv (vs := [.int _ _]) (cs := cs) rfl hgf hgb hgn rfl) (fun w hM => hcl k hk1 w hM.low) rfl rfl rfl ?_
      refine gops_nil ?_
      refine hN8 _ _ ?_
      refine gfrom [(0, .slice _ _ _), (1, .func (.func gf) #[] cs.toArray), (5, .int _ _), (7, .int _ _), (8, .int _ _), (16, .bool _)] ⟨rfl, rfl, rfl, rfl, rfl, rfl, trivial⟩ fun σ => ?_
      refine gcond (b := _) rfl (fun hc16 => ?_) (fun hc16 => ?_)
      · 
        refine gseq fun N9 hN9 => ?_
        refine greg ?_
        refine gop (y_move (v := .int _ _) rfl) rfl rfl rfl ?_
        refine gop (y_assign (v := .int _ _) rfl) rfl rfl rfl ?_
        refine gops_nil ?_
        refine hN9 _ _ ?_
        refine gfrom [(4, .int _ _)] ⟨rfl, trivial⟩ fun σ => ?_
        refine gret fun w1 hM => ?_
        refine ⟨_, res1 rfl (rt (v := .int _ _) rfl), ?_⟩
        exact ⟨by rw [idxP_hit (p := p) hk1 hz hc16], hM.low⟩
      · 
        refine gskip ?_
        refine hN6 _ _ ?_
        refine gfrom [(0, .slice _ _ _), (1, .func (.func gf) #[] cs.toArray), (7, .int _ _), (8, .int _ _)] ⟨rfl, rfl, rfl, rfl, trivial⟩ fun σ => ?_
        refine greg ?_
        refine gop (y_add rfl rfl ⟨by omega, by omega⟩) rfl rfl rfl ?_
        refine gop (y_move (v := .int _ _) rfl) rfl rfl rfl ?_
        refine gops_nil ?_
        refine gnext2 (k + 1) (by omega) (⟨by omega, fun j h hj => by rcases Nat.lt_succ_iff_lt_or_eq.1 hj with h1 | rfl; exact hz j h h1; exact hc16⟩) ⟨rfl, trivial⟩ ⟨rfl, rfl, rfl, trivial⟩ ⟨_, rfl⟩
    · 
      replace hc9 := of_decide_eq_false hc9
      have hI := idxP_none (p := p) (l := l) (fun j hj => hz j hj (by omega))
      refine gexit ?_
      refine hN2 _ _ ?_
      refine gfrom [] trivial fun σ => ?_
      refine gseq fun N10 hN10 => ?_
      refine greg ?_
      refine gop (y_assign (v := .int _ _) rfl) rfl rfl rfl ?_
      refine gops_nil ?_
      refine hN10 _ _ ?_
      refine gfrom [(4, .int _ _)] ⟨rfl, trivial⟩ fun σ => ?_
      refine gret fun w1 hM => ?_
      refine ⟨_, res1 rfl (rt (v := .int _ _) rfl), ?_⟩
      exact ⟨by rw [hI], hM.low⟩
set_option maxHeartbeats 1000000 in
theorem contFuncI_any (w : World) (A : Option Addr) (c : Nat) (l : List Int) (hl : Rdl w 0 1 intCells A l) (hn : l.length ≤ maxLen) (gf : FuncId) (fn : Func) (hgf : Tryd.prog.funcs[gf]? = some fn) (hgb : fn.body.isSome = true) (hgn : (fn.name == "runtime.NumGoroutine") = false) (cs : List Value) (p : Int → Bool) (hcl : ∀ k (h : k < l.length) w1, Below w.heap.size w w1 → Calls Tryd.prog gf (([.int .i64 l[k]] : List Value) ++ cs).toArray w1 (fun e w2 => e = .returned (.bool (p l[k])) ∧ Below w1.heap.size w1 w2)) : Calls Tryd.prog 74 #[.slice A l.length c, .func (.func gf) #[] cs.toArray] w fun e w' => e = .returned (.bool (l.any p)) ∧ Below w.heap.size w w' := by
  refine gcalls Tryd.func74 rfl Tryd.ntmps74 (Nat.le_of_ble_eq_true rfl) ?_
  refine gfrom [(0, .slice _ _ _), (1, .func (.func gf) #[] cs.toArray)] ⟨rfl, rfl, trivial⟩ fun σ => ?_
  refine gseq fun N1 hN1 => ?_
  refine greg ?_
  refine gop (y_assign (v := .bool _) rfl) rfl rfl rfl ?_
  refine gops_nil ?_
  refine hN1 _ _ ?_
  refine gfrom [(0, .slice _ _ _), (1, .func (.func gf) #[] cs.toArray)] ⟨rfl, rfl, trivial⟩ fun σ => ?_
  refine gseq fun N2 hN2 => ?_
  refine greg ?_
  refine gop (y_move (v := .slice _ _ _) rfl) rfl rfl rfl ?_
  refine gop (y_move (v := .func (.func gf) #[] cs.toArray) rfl) rfl rfl rfl ?_
  refine gop_pure (e_call (vs := [.slice _ _ _, .func (.func gf) #[] cs.toArray]) Tryd.func93 rfl (by kernel_rfl) rfl) (fun w hM => idxFuncI_any w A c l (hl.base hM) hn gf fn hgf hgb hgn cs p (fun k hk w1 hb => hcl k hk w1 (hM.call hb).low)) rfl rfl rfl ?_
  refine gop (y_geq rfl rfl) rfl rfl rfl ?_
  refine gop (y_assign (v := .bool _) rfl) rfl rfl rfl ?_
  refine gops_nil ?_
  refine hN2 _ _ ?_
  refine gfrom [(4, .bool _)] ⟨rfl, trivial⟩ fun σ => ?_
  refine gret fun w1 hM => ?_
  refine ⟨_, res1 rfl (rt (v := .bool _) rfl), ?_⟩
  exact ⟨by rw [idxP_any], hM.low⟩
set_option maxHeartbeats 1000000 in
theorem equalI_any (w : World) (A : Option Addr) (c : Nat) (a : List Int) (ha : Rdl w 0 1 intCells A a) (han : a.length ≤ maxLen) (B : Option Addr) (d : Nat) (b : List Int) (hb : Rdl w 0 1 intCells B b) (hbn : b.length ≤ maxLen) : Calls Tryd.prog 52 #[.slice A a.length c, .slice B b.length d] w fun e w' => e = .returned (.bool (decide (a = b))) ∧ Below w.heap.size w w' := by
  unfold maxLen at han hbn
  refine gcalls Tryd.func52 rfl Tryd.ntmps52 (Nat.le_of_ble_eq_true rfl) ?_
  refine gfrom [(0, .slice _ _ _), (1, .slice _ _ _)] ⟨rfl, rfl, trivial⟩ fun σ => ?_
  refine gseq fun N1 hN1 => ?_
  refine greg ?_
  refine gop (y_assign (v := .bool _) rfl) rfl rfl rfl ?_
  refine gops_nil ?_
  refine hN1 _ _ ?_
  refine gfrom [(0, .slice _ _ _), (1, .slice _ _ _)] ⟨rfl, rfl, trivial⟩ fun σ => ?_
  refine gseq fun N2 hN2 => ?_
  refine gseq fun N3 hN3 => ?_
  refine greg ?_
  refine gop (y_move (v := .slice _ _ _) rfl) rfl rfl rfl ?_
  refine gop (y_len Tryd.underlying30 rfl) rfl rfl rfl ?_
  refine gop (y_move (v := .slice _ _ _) rfl) rfl rfl rfl ?_
  refine gop (y_len Tryd.underlying30 rfl) rfl rfl rfl ?_
  refine gop (y_neq rfl rfl) rfl rfl rfl ?_
  refine gops_nil ?_
  refine hN3 _ _ ?_
  refine gfrom [(0, .slice _ _ _), (1, .slice _ _ _), (10, .bool _)] ⟨rfl, rfl, rfl, trivial⟩ fun σ => ?_
  refine gcond (b := _) rfl (fun hc10 => ?_) (fun hc10 => ?_)
  · 
    replace hc10 := of_decide_eq_true hc10
    refine gseq fun N4 hN4 => ?_
    refine greg ?_
    refine gop (y_assign (v := .bool _) rfl) rfl rfl rfl ?_
    refine gops_nil ?_
    refine hN4 _ _ ?_
    refine gfrom [(4, .bool _)] ⟨rfl, trivial⟩ fun σ => ?_
    refine gret fun w1 hM => ?_
    refine ⟨_, res1 rfl (rt (v := .bool _) rfl), ?_⟩
    exact ⟨by rw [decide_eq_false (fun e => by subst e; omega)], hM.low⟩
  · 
    replace hc10 := Decidable.not_not.1 (of_decide_eq_false hc10)
    refine gskip ?_
    refine hN2 _ _ ?_
    refine gfrom [(0, .slice _ _ _), (1, .slice _ _ _)] ⟨rfl, rfl, trivial⟩ fun σ => ?_
    refine gseq fun N5 hN5 => ?_
    refine gseq fun N6 hN6 => ?_
    refine greg ?_
    refine gop (y_move (v := .slice _ _ _) rfl) rfl rfl rfl ?_
    refine gop (y_len Tryd.underlying30 rfl) rfl rfl rfl ?_
    refine gop (y_move (v := .int _ _) rfl) rfl rfl rfl ?_
    refine gops_nil ?_
    refine hN6 _ _ ?_
    refine gfrom [(0, .slice _ _ _), (1, .slice _ _ _), (12, .int _ _), (13, .int _ _)] ⟨rfl, rfl, rfl, rfl, trivial⟩ fun σ => ?_
    refine gblock ?_
    refine gfrom2 [(13, .int _ _)] [(0, .slice _ _ _), (1, .slice _ _ _), (12, .int _ _)] ⟨rfl, trivial⟩ ⟨rfl, rfl, rfl, trivial⟩ fun σ => ?_
    refine gloop2 (G := Nat) (fun k => k ≤ a.length ∧ a.length = b.length ∧ a.take k = b.take k) (fun k => a.length - k) (fun k => [(13, .int .i64 (k : Int))]) (fun k => []) (0) ?h0 ⟨rfl, trivial⟩ ⟨rfl, rfl, rfl, trivial⟩ rfl ?round
    case h0 => exact ⟨Nat.zero_le _, by omega, by simp⟩
    case round =>
      intro k hφ σ
      obtain ⟨hk, hlm, htk⟩ := hφ
      refine gseq fun N7 hN7 => ?_
      refine greg ?_
      refine gop (y_lss rfl rfl) rfl rfl rfl ?_
      refine gops_nil ?_
      refine hN7 _ _ ?_
      refine gfrom [(0, .slice _ _ _), (1, .slice _ _ _), (12, .int _ _), (13, .int _ _), (14, .bool _)] ⟨rfl, rfl, rfl, rfl, rfl, trivial⟩ fun σ => ?_
      refine gseq fun N8 hN8 => ?_
      refine gcond (b := _) rfl (fun hc14 => ?_) (fun hc14 => ?_)
      · 
        replace hc14 := of_decide_eq_true hc14
        have hk1 : k < a.length := by omega
        have hk2 : k < b.length := by omega
        obtain ⟨ad, rfl, -, hca⟩ := ha.at_ hk1
        obtain ⟨ad', rfl, -, hcb⟩ := hb.at_ hk2
        refine gskip ?_
        refine hN8 _ _ ?_
        refine gfrom [(0, .slice _ _ _), (1, .slice _ _ _), (12, .int _ _), (13, .int _ _)] ⟨rfl, rfl, rfl, rfl, trivial⟩ fun σ => ?_
        refine gseq fun N9 hN9 => ?_
        refine gblock ?_
        refine gseq fun N10 hN10 => ?_
        refine greg ?_
        refine gop (y_move (v := .int _ _) rfl) rfl rfl rfl ?_
        refine gop (y_assign (v := .int _ _) rfl) rfl rfl rfl ?_
        refine gops_nil ?_
        refine hN10 _ _ ?_
        refine gfrom [(0, .slice _ _ _), (1, .slice _ _ _), (5, .int _ _), (12, .int _ _), (13, .int _ _)] ⟨rfl, rfl, rfl, rfl, rfl, trivial⟩ fun σ => ?_
        refine gseq fun N11 hN11 => ?_
        refine greg_q (by kernel_rfl) (by kernel_rfl) ?_
        refine gq (y_move (v := .slice _ _ _) rfl) rfl rfl rfl ?_
        refine gq (y_move (v := .int _ _) rfl) rfl rfl rfl ?_
        refine gq (y_indexAddr (m := k) Tryd.underlying30 Tryd.sizeOf3 rfl rfl (by omega) (by omega) (by omega)) rfl rfl rfl ?_
        refine gq (y_load Tryd.isAgg3 rfl (cell_base (hca 0 _ rfl))) rfl rfl rfl ?_
        refine gq (y_move (v := .slice _ _ _) rfl) rfl rfl rfl ?_
        refine gq (y_move (v := .int _ _) rfl) rfl rfl rfl ?_
        refine gq (y_indexAddr (m := k) Tryd.underlying30 Tryd.sizeOf3 rfl rfl (by omega) (by omega) (by omega)) rfl rfl rfl ?_
        refine gq (y_load Tryd.isAgg3 rfl (cell_base (hcb 0 _ rfl))) rfl rfl rfl ?_
        refine gq (y_neq rfl rfl) rfl rfl rfl ?_
        refine gqs_nil ?_
        refine hN11 _ _ ?_
        refine gfrom [(0, .slice _ _ _), (1, .slice _ _ _), (12, .int _ _), (13, .int _ _), (24, .bool _)] ⟨rfl, rfl, rfl, rfl, rfl, trivial⟩ fun σ => ?_
        refine gcond (b := _) rfl (fun hc24 => ?_) (fun hc24 => ?_)
        · 
          replace hc24 := of_decide_eq_true hc24
          refine gseq fun N12 hN12 => ?_
          refine greg ?_
          refine gop (y_assign (v := .bool _) rfl) rfl rfl rfl ?_
          refine gops_nil ?_
          refine hN12 _ _ ?_
          refine gfrom [(4, .bool _)] ⟨rfl, trivial⟩ fun σ => ?_
          refine gret fun w1 hM => ?_
          refine ⟨_, res1 rfl (rt (v := .bool _) rfl), ?_⟩
          exact ⟨by rw [decide_eq_false (ne_of_at hk1 hk2 hc24)], hM.low⟩
        · 
          replace hc24 := Decidable.not_not.1 (of_decide_eq_false hc24)
          refine gskip ?_
          refine hN9 _ _ ?_
          refine gfrom [(0, .slice _ _ _), (1, .slice _ _ _), (12, .int _ _), (13, .int _ _)] ⟨rfl, rfl, rfl, rfl, trivial⟩ fun σ => ?_
          refine greg ?_
          refine gop (y_add rfl rfl ⟨by omega, by omega⟩) rfl rfl rfl ?_
          refine gop (y_move (v := .int _ _) rfl) rfl rfl rfl ?_
          refine gops_nil ?_
          refine gnext2 (k + 1) (by omega) (⟨by omega, hlm, take_next a b k (by omega) (by omega) htk hc24⟩) ⟨rfl, trivial⟩ ⟨rfl, rfl, rfl, trivial⟩ ⟨_, rfl⟩
      · 
        replace hc14 := of_decide_eq_false hc14
        refine gexit ?_
        refine hN5 _ _ ?_
        refine gfrom [] trivial fun σ => ?_
        refine gseq fun N13 hN13 => ?_
        refine greg ?_
        refine gop (y_assign (v := .bool _) rfl) rfl rfl rfl ?_
        refine gops_nil ?_
        refine hN13 _ _ ?_
        refine gfrom [(4, .bool _)] ⟨rfl, trivial⟩ fun σ => ?_
        refine gret fun w1 hM => ?_
        refine ⟨_, res1 rfl (rt (v := .bool _) rfl), ?_⟩
        exact ⟨by rw [decide_eq_true (eq_of_takes hlm (by omega) htk)], hM.low⟩
set_option maxHeartbeats 1000000 in
theorem idxFuncG_any (w : World) (A : Option Addr) (c : Nat) (l : List GroupC) (hl : Rdl w 0 1 gpCells A l) (hn : l.length ≤ maxLen) (gf : FuncId) (fn : Func) (hgf : Tryd.prog.funcs[gf]? = some fn) (hgb : fn.body.isSome = true) (hgn : (fn.name == "runtime.NumGoroutine") = false) (cs : List Value) (p : List Int → Bool) (hcl : ∀ k (h : k < l.length) w1, Below w.heap.size w w1 → Calls Tryd.prog gf (([.slice l[k].A l[k].pl.length l[k].c] : List Value) ++ cs).toArray w1 (fun e w2 => e = .returned (.bool (p l[k].pl)) ∧ Below w1.heap.size w1 w2)) : Calls Tryd.prog 77 #[.slice A l.length c, .func (.func gf) #[] cs.toArray] w fun e w' => e = .returned (.int .i64 (idxP (fun a => p a.pl) l)) ∧ Below w.heap.size w w' := by
  unfold maxLen at hn
  refine gcalls Tryd.func77 rfl Tryd.ntmps77 (Nat.le_of_ble_eq_true rfl) ?_
  refine gfrom [(0, .slice _ _ _), (1, .func (.func gf) #[] cs.toArray)] ⟨rfl, rfl, trivial⟩ fun σ => ?_
  refine gseq fun N1 hN1 => ?_
  refine greg ?_
  refine gop (y_assign (v := .int _ _) rfl) rfl rfl rfl ?_
  refine gops_nil ?_
  refine hN1 _ _ ?_
  refine gfrom [(0, .slice _ _ _), (1, .func (.func gf) #[] cs.toArray)] ⟨rfl, rfl, trivial⟩ fun σ => ?_
  refine gseq fun N2 hN2 => ?_
  refine gseq fun N3 hN3 => ?_
  refine greg ?_
  refine gop (y_move (v := .slice _ _ _) rfl) rfl rfl rfl ?_
  refine gop (y_len Tryd.underlying44 rfl) rfl rfl rfl ?_
  refine gop (y_move (v := .int _ _) rfl) rfl rfl rfl ?_
  refine gops_nil ?_
  refine hN3 _ _ ?_
  refine gfrom [(0, .slice _ _ _), (1, .func (.func gf) #[] cs.toArray), (7, .int _ _), (8, .int _ _)] ⟨rfl, rfl, rfl, rfl, trivial⟩ fun σ => ?_
  refine gblock ?_
  refine gfrom2 [(8, .int _ _)] [(0, .slice _ _ _), (1, .func (.func gf) #[] cs.toArray), (7, .int _ _)] ⟨rfl, trivial⟩ ⟨rfl, rfl, rfl, trivial⟩ fun σ => ?_
  refine gloop2 (G := Nat) (fun k => k ≤ l.length ∧ ∀ j (h : j < l.length), j < k → p l[j].pl = false) (fun k => l.length - k) (fun k => [(8, .int .i64 (k : Int))]) (fun k => []) (0) ?h0 ⟨rfl, trivial⟩ ⟨rfl, rfl, rfl, trivial⟩ rfl ?round
  case h0 => exact ⟨Nat.zero_le _, fun _ _ h => absurd h (by omega)⟩
  case round =>
    intro k hφ σ
    obtain ⟨hk, hz⟩ := hφ
    refine gseq fun N4 hN4 => ?_
    refine greg ?_
    refine gop (y_lss rfl rfl) rfl rfl rfl ?_
    refine gops_nil ?_
    refine hN4 _ _ ?_
    refine gfrom [(0, .slice _ _ _), (1, .func (.func gf) #[] cs.toArray), (7, .int _ _), (8, .int _ _), (9, .bool _)] ⟨rfl, rfl, rfl, rfl, rfl, trivial⟩ fun σ => ?_
    refine gseq fun N5 hN5 => ?_
    refine gcond (b := _) rfl (fun hc9 => ?_) (fun hc9 => ?_)
    · 
      replace hc9 := of_decide_eq_true hc9
      have hk1 : k < l.length := by omega
      obtain ⟨ad, rfl, -, hca⟩ := hl.at_ hk1
      refine gskip ?_
      refine hN5 _ _ ?_
      refine gfrom [(0, .slice _ _ _), (1, .func (.func gf) #[] cs.toArray), (7, .int _ _), (8, .int _ _)] ⟨rfl, rfl, rfl, rfl, trivial⟩ fun σ => ?_
      refine gseq fun N6 hN6 => ?_
      refine gblock ?_
      refine gseq fun N7 hN7 => ?_
      refine greg ?_
      refine gop (y_move (v := .int _ _) rfl) rfl rfl rfl ?_
      refine gop (y_assign (v := .int _ _) rfl) rfl rfl rfl ?_
      refine gops_nil ?_
      refine hN7 _ _ ?_
      refine gfrom [(0, .slice _ _ _), (1, .func (.func gf) #[] cs.toArray), (5, .int _ _), (7, .int _ _), (8, .int _ _)] ⟨rfl, rfl, rfl, rfl, rfl, trivial⟩ fun σ => ?_
      refine gseq fun N8 hN8 => ?_
      refine greg ?_
      refine gop (y_move (v := .func (.func gf) #[] cs.toArray) rfl) rfl rfl rfl ?_
      refine gop (y_move (v := .slice _ _ _) rfl) rfl rfl rfl ?_
      refine gop (y_move (v := .int _ _) rfl) rfl rfl rfl ?_
      refine gop (y_indexAddr (m := k) Tryd.underlying44 Tryd.sizeOf30 rfl rfl (by omega) (by omega) (by omega)) rfl rfl rfl ?_
      refine gop (y_load Tryd.isAgg30 rfl (cell_base (hca 0 _ rfl))) rfl rfl rfl ?_
      refine gop_pure (e_callv (vs := [.slice _ _ _]) (cs := cs) rfl hgf hgb hgn rfl) (fun w hM => hcl k hk1 w hM.low) rfl rfl rfl ?_
      refine gops_nil ?_
      refine hN8 _ _ ?_
      refine gfrom [(0, .slice _ _ _), (1, .func (.func gf) #[] cs.toArray), (5, .int _ _), (7, .int _ _), (8, .int _ _), (16, .bool _)] ⟨rfl, rfl, rfl, rfl, rfl, rfl, trivial⟩ fun σ => ?_
      refine gcond (b := _) rfl (fun hc16 => ?_) (fun hc16 => ?_)
      · 
        refine gseq fun N9 hN9 => ?_
        refine greg ?_
        refine gop (y_move (v := .int _ _) rfl) rfl rfl rfl ?_
        refine gop (y_assign (v := .int _ _) rfl) rfl rfl rfl ?_
        refine gops_nil ?_
        refine hN9 _ _ ?_
        refine gfrom [(4, .int _ _)] ⟨rfl, trivial⟩ fun σ => ?_
        refine gret fun w1 hM => ?_
        refine ⟨_, res1 rfl (rt (v := .int _ _) rfl), ?_⟩
        exact ⟨by rw [idxP_hit (p := (fun a => p a.pl)) hk1 hz hc16], hM.low⟩
      · 
        refine gskip ?_
        refine hN6 _ _ ?_
        refine gfrom [(0, .slice _ _ _), (1, .func (.func gf) #[] cs.toArray), (7, .int _ _), (8, .int _ _)] ⟨rfl, rfl, rfl, rfl, trivial⟩ fun σ => ?_
        refine greg ?_
        refine gop (y_add rfl rfl ⟨by omega, by omega⟩) rfl rfl rfl ?_
        refine gop (y_move (v := .int _ _) rfl) rfl rfl rfl ?_
        refine gops_nil ?_
        refine gnext2 (k + 1) (by omega) (⟨by omega, fun j h hj => by rcases Nat.lt_succ_iff_lt_or_eq.1 hj with h1 | rfl; exact hz j h h1; exact hc16⟩) ⟨rfl, trivial⟩ ⟨rfl, rfl, rfl, trivial⟩ ⟨_, rfl⟩
    · 
      replace hc9 := of_decide_eq_false hc9
      have hI := idxP_none (p := (fun a => p a.pl)) (l := l) (fun j hj => hz j hj (by omega))
      refine gexit ?_
      refine hN2 _ _ ?_
      refine gfrom [] trivial fun σ => ?_
      refine gseq fun N10 hN10 => ?_
      refine greg ?_
      refine gop (y_assign (v := .int _ _) rfl) rfl rfl rfl ?_
      refine gops_nil ?_
      refine hN10 _ _ ?_
      refine gfrom [(4, .int _ _)] ⟨rfl, trivial⟩ fun σ => ?_
      refine gret fun w1 hM => ?_
      refine ⟨_, res1 rfl (rt (v := .int _ _) rfl), ?_⟩
      exact ⟨by rw [hI], hM.low⟩
set_option maxHeartbeats 1000000 in
theorem contFuncG_any (w : World) (A : Option Addr) (c : Nat) (l : List GroupC) (hl : Rdl w 0 1 gpCells A l) (hn : l.length ≤ maxLen) (n : Nat) (hnl : n = l.length) (gf : FuncId) (fn : Func) (hgf : Tryd.prog.funcs[gf]? = some fn) (hgb : fn.body.isSome = true) (hgn : (fn.name == "runtime.NumGoroutine") = false) (cs : List Value) (p : List Int → Bool) (hcl : ∀ k (h : k < l.length) w1, Below w.heap.size w w1 → Calls Tryd.prog gf (([.slice l[k].A l[k].pl.length l[k].c] : List Value) ++ cs).toArray w1 (fun e w2 => e = .returned (.bool (p l[k].pl)) ∧ Below w1.heap.size w1 w2)) : Calls Tryd.prog 55 #[.slice A n c, .func (.func gf) #[] cs.toArray] w fun e w' => e = .returned (.bool (l.any (fun a => p a.pl))) ∧ Below w.heap.size w w' := by
  subst hnl
  refine gcalls Tryd.func55 rfl Tryd.ntmps55 (Nat.le_of_ble_eq_true rfl) ?_
  refine gfrom [(0, .slice _ _ _), (1, .func (.func gf) #[] cs.toArray)] ⟨rfl, rfl, trivial⟩ fun σ => ?_
  refine gseq fun N1 hN1 => ?_
  refine greg ?_
  refine gop (y_assign (v := .bool _) rfl) rfl rfl rfl ?_
  refine gops_nil ?_
  refine hN1 _ _ ?_
  refine gfrom [(0, .slice _ _ _), (1, .func (.func gf) #[] cs.toArray)] ⟨rfl, rfl, trivial⟩ fun σ => ?_
  refine gseq fun N2 hN2 => ?_
  refine greg ?_
  refine gop (y_move (v := .slice _ _ _) rfl) rfl rfl rfl ?_
  refine gop (y_move (v := .func (.func gf) #[] cs.toArray) rfl) rfl rfl rfl ?_
  refine gop_pure (e_call (vs := [.slice _ _ _, .func (.func gf) #[] cs.toArray]) Tryd.func77 rfl (by kernel_rfl) rfl) (fun w hM => idxFuncG_any w A c l (hl.base hM) hn gf fn hgf hgb hgn cs p (fun k hk w1 hb => hcl k hk w1 (hM.call hb).low)) rfl rfl rfl ?_
  refine gop (y_geq rfl rfl) rfl rfl rfl ?_
  refine gop (y_assign (v := .bool _) rfl) rfl rfl rfl ?_
  refine gops_nil ?_
  refine hN2 _ _ ?_
  refine gfrom [(4, .bool _)] ⟨rfl, trivial⟩ fun σ => ?_
  refine gret fun w1 hM => ?_
  refine ⟨_, res1 rfl (rt (v := .bool _) rfl), ?_⟩
  exact ⟨by rw [idxP_any], hM.low⟩
set_option maxHeartbeats 1000000 in
theorem req1_any (w : World) (A : Option Addr) (c : Nat) (a : List Int) (ha : Rdl w 0 1 intCells A a) (han : a.length ≤ maxLen) (bg : Nat) (B : Option Addr) (d : Nat) (b : List Int) (hbox : w.cell? ⟨bg, 0, none⟩ = some (.slice B b.length d)) (hb : Rdl w 0 1 intCells B b) (hbn : b.length ≤ maxLen) : Calls Tryd.prog 51 #[.slice A a.length c, .pointer (some ⟨bg, 0, none⟩)] w fun e w' => e = .returned (.bool (decide (a = b))) ∧ Below w.heap.size w w' := by
  refine gcalls Tryd.func51 rfl Tryd.ntmps51 (Nat.le_of_ble_eq_true rfl) ?_
  refine gfrom [(0, .slice _ _ _), (1, .pointer (some ⟨bg, 0, none⟩))] ⟨rfl, rfl, trivial⟩ fun σ => ?_
  refine gseq fun N1 hN1 => ?_
  refine greg ?_
  refine gop (y_assign (v := .bool _) rfl) rfl rfl rfl ?_
  refine gops_nil ?_
  refine hN1 _ _ ?_
  refine gfrom [(0, .slice _ _ _), (1, .pointer (some ⟨bg, 0, none⟩))] ⟨rfl, rfl, trivial⟩ fun σ => ?_
  refine gseq fun N2 hN2 => ?_
  refine greg ?_
  refine gop (y_move (v := .slice _ _ _) rfl) rfl rfl rfl ?_
  refine gop (y_load (v := .slice B b.length d) Tryd.isAgg30 rfl (cell_base hbox)) rfl rfl rfl ?_
  refine gop_pure (e_call (vs := [.slice _ _ _, .slice _ _ _]) Tryd.func52 rfl (by kernel_rfl) rfl) (fun w hM => equalI_any w A c a (ha.base hM) han B d b (hb.base hM) hbn) rfl rfl rfl ?_
  refine gop (y_assign (v := .bool _) rfl) rfl rfl rfl ?_
  refine gops_nil ?_
  refine hN2 _ _ ?_
  refine gfrom [(3, .bool _)] ⟨rfl, trivial⟩ fun σ => ?_
  refine gret fun w1 hM => ?_
  refine ⟨_, res1 rfl (rt (v := .bool _) rfl), ?_⟩
  exact ⟨rfl, hM.low⟩
end Go.Proofs.YtijpaljdclhehaaDoor
namespace Go.Proofs.YtijpaljdclhehaaDoor
open Go.RowKit Go.Cf
set_option maxRecDepth 10000
set_option maxHeartbeats 2000000 in
theorem smaller_any (w : World) (A : Option Addr) (c : Nat) (a : List Int) (ha : Rdl w 0 1 intCells A a) (han : a.length ≤ maxLen) (B : Option Addr) (d : Nat) (b : List Int) (hb : Rdl w 0 1 intCells B b) (hbn : b.length ≤ maxLen) : Calls Tryd.prog 54 #[.slice A a.length c, .slice B b.length d] w fun e w' => e = .returned (.bool (smallerL a b)) ∧ Below w.heap.size w w' := by
  refine gcalls Tryd.func54 rfl Tryd.ntmps54 (Nat.le_of_ble_eq_true rfl) ?_
  refine gfrom [(0, .slice _ _ _), (1, .slice B _ d)] ⟨rfl, rfl, trivial⟩ fun σ => ?_
  refine gseq fun N1 hN1 => ?_
  refine greg ?_
  refine gop_box (v := .slice B _ d) (cs := #[_]) rfl rfl rfl (fun b3 hb3 => ?_)
  refine gop (y_assign (v := .bool _) rfl) rfl rfl rfl ?_
  refine gops_nil ?_
  refine hN1 _ _ ?_
  refine gT [box b3 _] rfl ?_
  refine gfrom [(0, .slice _ _ _), (3, .pointer _)] ⟨rfl, rfl, trivial⟩ fun σ => ?_
  refine gseq fun N2 hN2 => ?_
  refine greg ?_
  refine gop (y_move (v := .slice _ _ _) rfl) rfl rfl rfl ?_
  refine gop (y_len Tryd.underlying30 rfl) rfl rfl rfl ?_
  refine gop (y_gtr rfl rfl) rfl rfl rfl ?_
  refine gop (y_move (v := .bool _) rfl) rfl rfl rfl ?_
  refine gop_if (want := true) rfl rfl rfl rfl rfl rfl (fun hg8 => ?_) (fun hg8 => ?_)
  · 
    have hg8d := of_decide_eq_true hg8
    refine gop (y_bare (y_move (v := .slice _ _ _) rfl)) rfl rfl rfl ?_
    refine gop_on rfl rfl rfl rfl hg8 ?_
    refine gop (y_bare (y_len Tryd.underlying30 rfl)) rfl rfl rfl ?_
    refine gop_on rfl rfl rfl rfl hg8 ?_
    refine gop (y_bare (y_load Tryd.isAgg30 rfl (cell_box 0 rfl rfl))) rfl rfl rfl ?_
    refine gop_on rfl rfl rfl rfl hg8 ?_
    refine gop (y_bare (y_len Tryd.underlying30 rfl)) rfl rfl rfl ?_
    refine gop_on rfl rfl rfl rfl hg8 ?_
    refine gop (y_bare (y_lss rfl rfl)) rfl rfl rfl ?_
    refine gop (y_pick_t (v := .bool _) rfl hg8 rfl) rfl rfl rfl ?_
    refine gop (y_move (v := .bool _) rfl) rfl rfl rfl ?_
    refine gop_if (want := true) rfl rfl rfl rfl rfl rfl (fun hg15 => ?_) (fun hg15 => ?_)
    · 
      have hg15d := of_decide_eq_true hg15
      refine gop (y_bare (y_move (v := .slice _ _ _) rfl)) rfl rfl rfl ?_
      refine gop_on rfl rfl rfl rfl hg15 ?_
      refine gop (y_bare (y_makeFunc (vs := [.pointer (some ⟨b3, 0, none⟩)]) rfl)) rfl rfl rfl ?_
      refine gop_on rfl rfl rfl rfl hg15 ?_
      refine gop_pure (e_call (vs := [.slice _ _ _, .func (.func 75) #[] #[.pointer (some ⟨b3, 0, none⟩)]]) Tryd.func74 rfl (by kernel_rfl) rfl) (fun w hM => by have h1 : ∀ k (h : k < a.length) w1, Below w.heap.size w w1 → Calls Tryd.prog 75 (([.int .i64 a[k]] : List Value) ++ [Value.pointer (some ⟨b3, 0, none⟩)]).toArray w1 (fun e w2 => e = .returned (.bool (!hasI b a[k])) ∧ Below w1.heap.size w1 w2) := (fun k hk w1 hb1 => smaller1_any w1 a[k] b3 B d b ((hM.call hb1).cell 0 rfl rfl) (hb.base (hM.call hb1)) hbn); have hc := contFuncI_any w A c a (ha.base hM) han 75 _ Tryd.func75 (by kernel_rfl) (by kernel_rfl) [.pointer (some ⟨b3, 0, none⟩)] (fun u => !hasI b u) h1; exact hc) rfl rfl rfl ?_
      refine gop_on rfl rfl rfl rfl hg15 ?_
      refine gop (y_bare (y_not rfl)) rfl rfl rfl ?_
      refine gop (y_pick_t (v := .bool _) rfl hg15 rfl) rfl rfl rfl ?_
      refine gop (y_assign (v := .bool _) rfl) rfl rfl rfl ?_
      refine gops_nil ?_
      refine hN2 _ _ ?_
      refine gfrom [(4, .bool _)] ⟨rfl, trivial⟩ fun σ => ?_
      refine gret fun w1 hM => ?_
      refine ⟨_, res1 rfl (rt (v := .bool _) rfl), ?_⟩
      first | exact ⟨by rw [smallerL, decide_eq_true (show 0 < a.length by omega), decide_eq_true (show a.length < b.length by omega)]; rfl, hM.low⟩ | exact ⟨by rw [smallerL, decide_eq_false (show ¬ 0 < a.length by omega)]; rfl, hM.low⟩ | exact ⟨by rw [smallerL, decide_eq_false (show ¬ a.length < b.length by omega)]; simp, hM.low⟩
    · 
      have hg15d := of_decide_eq_false hg15
      refine gop_off rfl rfl rfl rfl hg15 rfl rfl ?_
      refine gop_off rfl rfl rfl rfl hg15 rfl rfl ?_
      refine gop_off rfl rfl rfl rfl hg15 rfl rfl ?_
      refine gop (y_pick_f (v := .bool _) rfl hg15 rfl) rfl rfl rfl ?_
      refine gop (y_assign (v := .bool _) rfl) rfl rfl rfl ?_
      refine gops_nil ?_
      refine hN2 _ _ ?_
      refine gfrom [(4, .bool _)] ⟨rfl, trivial⟩ fun σ => ?_
      refine gret fun w1 hM => ?_
      refine ⟨_, res1 rfl (rt (v := .bool _) rfl), ?_⟩
      first | exact ⟨by rw [smallerL, decide_eq_true (show 0 < a.length by omega), decide_eq_true (show a.length < b.length by omega)]; rfl, hM.low⟩ | exact ⟨by rw [smallerL, decide_eq_false (show ¬ 0 < a.length by omega)]; rfl, hM.low⟩ | exact ⟨by rw [smallerL, decide_eq_false (show ¬ a.length < b.length by omega)]; simp, hM.low⟩
  · 
    have hg8d := of_decide_eq_false hg8
    refine gop_off rfl rfl rfl rfl hg8 rfl rfl ?_
    refine gop_off rfl rfl rfl rfl hg8 rfl rfl ?_
    refine gop_off rfl rfl rfl rfl hg8 rfl rfl ?_
    refine gop_off rfl rfl rfl rfl hg8 rfl rfl ?_
    refine gop (y_pick_f (v := .bool _) rfl hg8 rfl) rfl rfl rfl ?_
    refine gop (y_move (v := .bool _) rfl) rfl rfl rfl ?_
    refine gop_off rfl rfl rfl rfl rfl rfl rfl ?_
    refine gop_off rfl rfl rfl rfl rfl rfl rfl ?_
    refine gop_off rfl rfl rfl rfl rfl rfl rfl ?_
    refine gop_off rfl rfl rfl rfl rfl rfl rfl ?_
    refine gop (y_pick_f (v := .bool _) rfl rfl rfl) rfl rfl rfl ?_
    refine gop (y_assign (v := .bool _) rfl) rfl rfl rfl ?_
    refine gops_nil ?_
    refine hN2 _ _ ?_
    refine gfrom [(4, .bool _)] ⟨rfl, trivial⟩ fun σ => ?_
    refine gret fun w1 hM => ?_
    refine ⟨_, res1 rfl (rt (v := .bool _) rfl), ?_⟩
    first | exact ⟨by rw [smallerL, decide_eq_true (show 0 < a.length by omega), decide_eq_true (show a.length < b.length by omega)]; rfl, hM.low⟩ | exact ⟨by rw [smallerL, decide_eq_false (show ¬ 0 < a.length by omega)]; rfl, hM.low⟩ | exact ⟨by rw [smallerL, decide_eq_false (show ¬ a.length < b.length by omega)]; simp, hM.low⟩
set_option maxHeartbeats 1000000 in
theorem req2_any (w : World) (A : Option Addr) (c : Nat) (a : List Int) (ha : Rdl w 0 1 intCells A a) (han : a.length ≤ maxLen) (bg : Nat) (B : Option Addr) (d : Nat) (b : List Int) (hbox : w.cell? ⟨bg, 0, none⟩ = some (.slice B b.length d)) (hb : Rdl w 0 1 intCells B b) (hbn : b.length ≤ maxLen) : Calls Tryd.prog 53 #[.slice A a.length c, .pointer (some ⟨bg, 0, none⟩)] w fun e w' => e = .returned (.bool (smallerL a b)) ∧ Below w.heap.size w w' := by
  refine gcalls Tryd.func53 rfl Tryd.ntmps53 (Nat.le_of_ble_eq_true rfl) ?_
  refine gfrom [(0, .slice _ _ _), (1, .pointer (some ⟨bg, 0, none⟩))] ⟨rfl, rfl, trivial⟩ fun σ => ?_
  refine gseq fun N1 hN1 => ?_
  refine greg ?_
  refine gop (y_assign (v := .bool _) rfl) rfl rfl rfl ?_
  refine gops_nil ?_
  refine hN1 _ _ ?_
  refine gfrom [(0, .slice _ _ _), (1, .pointer (some ⟨bg, 0, none⟩))] ⟨rfl, rfl, trivial⟩ fun σ => ?_
  refine gseq fun N2 hN2 => ?_
  refine greg ?_
  refine gop (y_move (v := .slice _ _ _) rfl) rfl rfl rfl ?_
  refine gop (y_load (v := .slice B b.length d) Tryd.isAgg30 rfl (cell_base hbox)) rfl rfl rfl ?_
  refine gop_pure (e_call (vs := [.slice _ _ _, .slice _ _ _]) Tryd.func54 rfl (by kernel_rfl) rfl) (fun w hM => smaller_any w A c a (ha.base hM) han B d b (hb.base hM) hbn) rfl rfl rfl ?_
  refine gop (y_assign (v := .bool _) rfl) rfl rfl rfl ?_
  refine gops_nil ?_
  refine hN2 _ _ ?_
  refine gfrom [(3, .bool _)] ⟨rfl, trivial⟩ fun σ => ?_
  refine gret fun w1 hM => ?_
  refine ⟨_, res1 rfl (rt (v := .bool _) rfl), ?_⟩
  exact ⟨rfl, hM.low⟩
end Go.Proofs.YtijpaljdclhehaaDoor
