/- Own frame, plain models and walks, part 2 (texts of this claim put together). -/
import Derived.Test.YtbkameioedmlkaaGreatDoorP40a
import Derived.Carry
import Derived.ChangeOld
import Derived.Deep.CondSized
import Derived.Deep.Slices
import Derived.Laws.Strings
import Derived.Lib.AtoiAll
import Derived.Lib.Bytealg
import Derived.Lib.ConvBytes
import Derived.Lib.IndexAny
import Derived.Lib.ItoaNum
import Derived.Lib.Join
import Derived.Lib.RowBridge
import Derived.Lib.Strings
import Derived.OpenShut
import Derived.ProofKit
import Derived.SizedLaws
import Derived.Sort.Walk0
import Derived.Test.YtbkameioedmlkaaGreatDoorChecked
namespace Go.Cf
open Go.RowKit
def goalP (p q : ByteArray) : Pl := (p.size, q.size, 3)
inductive Reach (p q : ByteArray) : Pl → Prop
  | start : Reach p q (0, 0, 0)
  | step {x y : Pl} : Reach p q x → y ∈ nextL p q x → Reach p q y
inductive To (p q : ByteArray) : Pl → Prop
  | here : To p q (goalP p q)
  | step {x y : Pl} : y ∈ nextL p q x → To p q y → To p q x
def okPl (p q : ByteArray) (x : Pl) : Prop := x.1 ≤ p.size ∧ x.2.1 ≤ q.size ∧ x.2.2 ≤ 3
theorem KJ {p q : ByteArray} {x y : Pl} : y ∈ nextL p q x ↔ (x.1 < p.size ∧ byteAt p x.1 = 42 ∧ y = (x.1 + 1, x.2.1, x.2.2)) ∨ (x.2.1 < q.size ∧ byteAt q x.2.1 = 42 ∧ y = (x.1, x.2.1 + 1, x.2.2)) ∨ (x.1 < p.size ∧ x.2.1 < q.size ∧ fits p q x ∧ y = (nxI p x, nxJ q x, nxD p q x)) := by
  unfold nextL nxA nxB nxC
  rw [List.mem_append, List.mem_append]
  constructor
  · rintro ((h | h) | h)
    · split at h
      · rename_i hc; exact .inl ⟨hc.1, hc.2, by simpa using h⟩
      · simp at h
    · split at h
      · rename_i hc; exact .inr (.inl ⟨hc.1, hc.2, by simpa using h⟩)
      · simp at h
    · split at h
      · rename_i hc; exact .inr (.inr ⟨hc.1, hc.2.1, hc.2.2, by simpa using h⟩)
      · simp at h
  · rintro (⟨h1, h2, h3⟩ | ⟨h1, h2, h3⟩ | ⟨h1, h2, h3, h4⟩)
    · left; left; rw [if_pos ⟨h1, h2⟩, h3]; simp
    · left; right; rw [if_pos ⟨h1, h2⟩, h3]; simp
    · right; rw [if_pos ⟨h1, h2, h3⟩, h4]; simp
theorem nxI_le {p : ByteArray} {x : Pl} : x.1 ≤ nxI p x ∧ nxI p x ≤ x.1 + 1 := by unfold nxI; split <;> omega
theorem nxJ_le {q : ByteArray} {x : Pl} : x.2.1 ≤ nxJ q x ∧ nxJ q x ≤ x.2.1 + 1 := by unfold nxJ; split <;> omega
theorem nxD_le {p q : ByteArray} {x : Pl} : nxD p q x ≤ 3 ∧ (x.2.2 ≤ 3 → x.2.2 ≤ nxD p q x) := by unfold nxD; split <;> omega
theorem next_ok {p q : ByteArray} {x y : Pl} (hx : okPl p q x) (h : y ∈ nextL p q x) : okPl p q y := by
  obtain ⟨h1, h2, h3⟩ := hx
  have i := @nxI_le p x; have j := @nxJ_le q x; have d := @nxD_le p q x
  rcases KJ.1 h with ⟨a, _, rfl⟩ | ⟨a, _, rfl⟩ | ⟨a, b, _, rfl⟩
  · exact ⟨a, h2, h3⟩
  · exact ⟨h1, a, h3⟩
  · exact ⟨by show nxI p x ≤ _; omega, by show nxJ q x ≤ _; omega, d.1⟩
def rankP (p q : ByteArray) (x : Pl) : Nat := (p.size - x.1) + (q.size - x.2.1) + (3 - x.2.2)
theorem next_rank {p q : ByteArray} {x y : Pl} (hx : okPl p q x) (h : y ∈ nextL p q x) (hne : y ≠ x) : rankP p q y < rankP p q x := by
  obtain ⟨h1, h2, h3⟩ := hx
  have i := @nxI_le p x; have j := @nxJ_le q x; have d := @nxD_le p q x
  obtain ⟨x1, x2, x3⟩ := x
  rcases KJ.1 h with ⟨a, _, rfl⟩ | ⟨a, _, rfl⟩ | ⟨a, b, _, rfl⟩
  · simp only [rankP] at *; omega
  · simp only [rankP] at *; omega
  · have hne' : ¬ (nxI p (x1, x2, x3) = x1 ∧ nxJ q (x1, x2, x3) = x2 ∧ nxD p q (x1, x2, x3) = x3) := fun ⟨e1, e2, e3⟩ => hne (by rw [e1, e2, e3])
    simp only [rankP] at *; omega
theorem Reach.ok {p q : ByteArray} {x : Pl} (h : Reach p q x) : okPl p q x := by
  induction h with
  | start => exact ⟨Nat.zero_le _, Nat.zero_le _, Nat.zero_le _⟩
  | step _ h ih => exact next_ok ih h
def fromB (p q : ByteArray) : Nat → Pl → Bool
  | 0, _ => false
  | n + 1, x => decide (x = goalP p q) || (nextL p q x).any (fun y => decide (y ≠ x) && fromB p q n y)
def commonB (p q : ByteArray) : Bool := fromB p q (p.size + q.size + 4) (0, 0, 0)
theorem fromB_to {p q : ByteArray} : ∀ (n : Nat) (x : Pl), fromB p q n x = true → To p q x
  | 0, _, h => by simp [fromB] at h
  | n + 1, x, h => by
    rw [fromB, Bool.or_eq_true] at h
    rcases h with h | h
    · rw [of_decide_eq_true h]; exact .here
    · obtain ⟨y, hy, h1⟩ := List.any_eq_true.1 h
      rw [Bool.and_eq_true] at h1
      exact .step hy (fromB_to n y h1.2)
theorem to_fromB {p q : ByteArray} {x : Pl} (h : To p q x) : okPl p q x → ∀ n, rankP p q x < n → fromB p q n x = true := by
  induction h with
  | here =>
    intro _ n hn
    obtain ⟨m, rfl⟩ : ∃ m, n = m + 1 := ⟨n - 1, by omega⟩
    simp [fromB]
  | @step x y hy _ ih =>
    intro hx n hn
    by_cases e : y = x
    · subst e; exact ih hx n hn
    · obtain ⟨m, rfl⟩ : ∃ m, n = m + 1 := ⟨n - 1, by omega⟩
      have hr := next_rank hx hy e
      rw [fromB, Bool.or_eq_true]; right
      rw [List.any_eq_true]
      exact ⟨y, hy, by rw [Bool.and_eq_true]; exact ⟨decide_eq_true e, ih (next_ok hx hy) m (by omega)⟩⟩
theorem to_of_reach {p q : ByteArray} {x : Pl} (h : Reach p q x) : To p q x → To p q (0, 0, 0) := by
  induction h with
  | start => exact id
  | step _ hy ih => exact fun h => ih (.step hy h)
theorem reach_of_to {p q : ByteArray} {x : Pl} (h : To p q x) : Reach p q x → Reach p q (goalP p q) := by
  induction h with
  | here => exact id
  | step hy _ ih => exact fun h => ih (.step h hy)
theorem UX {p q : ByteArray} : commonB p q = true ↔ To p q (0, 0, 0) :=
  ⟨fromB_to _ _, fun h => to_fromB h ⟨Nat.zero_le _, Nat.zero_le _, Nat.zero_le _⟩ _ (by simp [rankP])⟩
theorem commonB_reach {p q : ByteArray} : commonB p q = true ↔ Reach p q (goalP p q) :=
  UX.trans ⟨fun h => reach_of_to h .start, fun h => to_of_reach h .here⟩
structure Dfs (p q : ByteArray) (l S : List Pl) : Prop where
  nodup : S.Nodup
  reach : ∀ x, x ∈ l ∨ x ∈ S → Reach p q x
  start : (0, 0, 0) ∈ l ∨ (0, 0, 0) ∈ S
  next : ∀ x, x ∈ S → ∀ y ∈ nextL p q x, y ∈ l ∨ y ∈ S
  goal : ∀ x, x ∈ S → x ≠ goalP p q
  len : l.length ≤ 2 * S.length + 1
section
variable {p q : ByteArray} {l S : List Pl} {x : Pl}
theorem Dfs.first : Dfs p q [(0, 0, 0)] [] := ⟨List.nodup_nil, fun x hx => by simp at hx; subst hx; exact .start, by simp, by simp, by simp, by simp⟩
theorem Dfs.skip (h : Dfs p q (l ++ [x]) S) (hx : x ∈ S) : Dfs p q l S := by
  have key : ∀ y, y ∈ l ++ [x] ∨ y ∈ S → y ∈ l ∨ y ∈ S := by
    intro y hy
    rcases hy with hy | hy
    · rcases List.mem_append.1 hy with hy | hy
      · exact .inl hy
      · rw [List.mem_singleton.1 hy]; exact .inr hx
    · exact .inr hy
  exact ⟨h.nodup, fun y hy => h.reach y (hy.imp (fun h => by simp [h]) id), key _ h.start, fun a ha y hy => key y (h.next a ha y hy), h.goal, by have := h.len; simp at this; omega⟩
theorem Dfs.take (h : Dfs p q (l ++ [x]) S) (hx : x ∉ S) (hg : x ≠ goalP p q) : Dfs p q (l ++ nextL p q x) (S ++ [x]) := by
  have hr := h.reach x (.inl (by simp))
  have key : ∀ y, y ∈ l ++ [x] ∨ y ∈ S → y ∈ l ++ nextL p q x ∨ y ∈ S ++ [x] := by
    intro y hy
    rcases hy with hy | hy
    · rcases List.mem_append.1 hy with hy | hy
      · exact .inl (by simp [hy])
      · exact .inr (by simp [List.mem_singleton.1 hy])
    · exact .inr (by simp [hy])
  refine ⟨?_, ?_, key _ h.start, ?_, ?_, ?_⟩
  · rw [List.nodup_append]
    exact ⟨h.nodup, by simp, fun a ha b hb => by rw [List.mem_singleton.1 hb]; rintro rfl; exact hx ha⟩
  · rintro y (hy | hy)
    · rcases List.mem_append.1 hy with hy | hy
      · exact h.reach y (.inl (by simp [hy]))
      · exact .step hr hy
    · rcases List.mem_append.1 hy with hy | hy
      · exact h.reach y (.inr hy)
      · rw [List.mem_singleton.1 hy]; exact hr
  · intro a ha y hy
    rcases List.mem_append.1 ha with ha | ha
    · exact key y (h.next a ha y hy)
    · rw [List.mem_singleton.1 ha] at hy; exact .inl (by simp [hy])
  · intro a ha
    rcases List.mem_append.1 ha with ha | ha
    · exact h.goal a ha
    · rw [List.mem_singleton.1 ha]; exact hg
  · have h1 := h.len
    have h2 := nextL_len p q x
    simp at h1 ⊢; omega
theorem Dfs.hit (h : Dfs p q (l ++ [x]) S) (hg : x = goalP p q) : commonB p q = true :=
  commonB_reach.2 (by rw [← hg]; exact h.reach x (.inl (by simp)))
end
def ovN (p : ByteArray) (f : List ByteArray → Bool) : List ByteArray → Bool
  | [] => false
  | q :: Q => if strEq q sStars then ovN p f Q || f (q :: Q) else commonB p q && f Q
def ov : List ByteArray → List ByteArray → Bool
  | [], Q => Q.all (strEq · sStars)
  | p :: P, Q => if strEq p sStars then starW (ov P) Q else ovN p (ov P) Q
end Go.Cf
namespace Go.Cf
open Go.RowKit
section
variable {p q s : ByteArray}
theorem to_swap {x : Pl} (h : To p q x) : To q p (x.2.1, x.1, x.2.2) := by
  induction h with
  | here => exact .here
  | @step x y hy _ ih =>
    refine .step (y := (y.2.1, y.1, y.2.2)) (KJ.2 ?_) ih
    rcases KJ.1 hy with ⟨h1, h2, rfl⟩ | ⟨h1, h2, rfl⟩ | ⟨h1, h2, h3, rfl⟩
    · exact .inr (.inl ⟨h1, h2, rfl⟩)
    · exact .inl ⟨h1, h2, rfl⟩
    · refine .inr (.inr ⟨h2, h1, ?_, ?_⟩)
      · rcases h3 with h | h | h
        · exact .inr (.inl h)
        · exact .inl h
        · exact .inr (.inr h.symm)
      · have e : nxD q p (x.2.1, x.1, x.2.2) = nxD p q x := by
          unfold nxD
          by_cases hc : byteAt p x.1 = 46 ∨ byteAt q x.2.1 = 46
          · rw [if_pos hc, if_pos (show byteAt q x.2.1 = 46 ∨ byteAt p x.1 = 46 from hc.symm)]
          · rw [if_neg hc, if_neg (show ¬ (byteAt q x.2.1 = 46 ∨ byteAt p x.1 = 46) from fun h => hc h.symm)]
        rw [e]; rfl
theorem common_symm (p q : ByteArray) : commonB p q = commonB q p := by
  rw [Bool.eq_iff_iff, UX, UX]
  exact ⟨fun h => to_swap h, fun h => to_swap h⟩
end
inductive Ov : List ByteArray → List ByteArray → Prop
  | nil : Ov [] []
  | starL {p : ByteArray} {P Q : List ByteArray} : strEq p sStars = true → Ov P Q → Ov (p :: P) Q
  | starR {q : ByteArray} {P Q : List ByteArray} : strEq q sStars = true → Ov P Q → Ov P (q :: Q)
  | eatL {p q : ByteArray} {P Q : List ByteArray} : strEq p sStars = true → Ov (p :: P) Q → Ov (p :: P) (q :: Q)
  | eatR {p q : ByteArray} {P Q : List ByteArray} : strEq q sStars = true → Ov P (q :: Q) → Ov (p :: P) (q :: Q)
  | both {p q : ByteArray} {P Q : List ByteArray} : strEq p sStars = false → strEq q sStars = false → commonB p q = true → Ov P Q → Ov (p :: P) (q :: Q)
theorem Ov.symm {P Q : List ByteArray} (h : Ov P Q) : Ov Q P := by
  induction h with
  | nil => exact .nil
  | starL hp _ ih => exact .starR hp ih
  | starR hp _ ih => exact .starL hp ih
  | eatL hp _ ih => exact .eatR hp ih
  | eatR hp _ ih => exact .eatL hp ih
  | both hp hq hc _ ih => exact .both hq hp (by rw [common_symm]; exact hc) ih
end Go.Cf
namespace Go.Cf
open Go.RowKit
theorem byte_of {s : ByteArray} {i : Nat} {b : UInt8} (h : s.data.toList[i]? = some b) : i < s.size ∧ byteAt s i = b.toNat := by
  obtain ⟨h1, h2⟩ := List.getElem?_eq_some_iff.1 h
  have h3 : i < s.size := by simpa using h1
  refine ⟨h3, ?_⟩
  unfold byteAt
  rw [h]; rfl
end Go.Cf
namespace Go.Cf
open Go.RowKit
structure HunkC where
  pl : Hunk
  oA : Option Addr
  oc : Nat
  nA : Option Addr
  nc : Nat
abbrev hunkCells (h : HunkC) : List Value := [.int .i64 h.pl.at_, .slice h.oA h.pl.old.length h.oc, .slice h.nA h.pl.new.length h.nc]
abbrev hunkV (h : HunkC) : Value := .agg #[.int .i64 h.pl.at_, .slice h.oA h.pl.old.length h.oc, .slice h.nA h.pl.new.length h.nc]
structure SB (A : Option Addr) (n c : Nat) (b : Nat) : Prop where
  len : n ≤ c
  max : c ≤ maxLen
  nil : A = none → c = 0
  bytes : n * b ≤ reachBytes
theorem SB.lit {a : Addr} {b : Nat} (n : Nat) (h : n ≤ 1000) (hb : b ≤ 1000) : SB (some a) n n b := by
  refine ⟨Nat.le_refl _, by unfold maxLen; omega, (fun h => by cases h), ?_⟩
  have : n * b ≤ 1000 * 1000 := Nat.mul_le_mul h hb
  unfold reachBytes; omega
structure HunkR (w : World) (lo : Nat) (h : HunkC) : Prop where
  old : Rdl w lo 1 strCells h.oA h.pl.old
  new : Rdl w lo 1 strCells h.nA h.pl.new
  ob : SB h.oA h.pl.old.length h.oc 16
  nb : SB h.nA h.pl.new.length h.nc 16
  at_ : In64 h.pl.at_
def Lasts (lo : Nat) (R : World → Prop) : Prop := ∀ w w', R w → (∀ p : Addr, lo ≤ p.block → p.block < w.heap.size → w'.cell? p = w.cell? p) → R w'
theorem Lasts.base {lo : Nat} {R : World → Prop} (h : Lasts lo R) {w0 w : World} {T : List Reg} (hR : R w0) (hM : Mem w0 T w) : R w := h w0 w hR fun _ _ hp => hM.low.cell hp
theorem Lasts.below {lo : Nat} {R : World → Prop} (h : Lasts lo R) {w0 w : World} (hR : R w0) (hb : Below w0.heap.size w0 w) : R w := h w0 w hR fun _ _ hp => hb.cell hp
theorem Lasts.seal_ {lo : Nat} {R : World → Prop} (h : Lasts lo R) {w0 w ws : World} {T : List Reg} (i : Nat) {lo1 : Nat} (hi : T[i]? = some (seal_ lo1 ws)) (hR : R ws) (hlo : lo1 ≤ lo) (hM : Mem w0 T w) : R w :=
  h ws w hR fun p h1 h2 => by
    have h3 : ∀ k, lo1 ≤ k → k < ws.heap.size → w.heap[k]? = ws.heap[k]? := hM.ok _ (List.mem_of_getElem? hi)
    exact World.cell?_of_block (h3 p.block (Nat.le_trans hlo h1) h2)
theorem Rdl.lasts {α : Type} {lo size : Nat} {f : α → List Value} {A : Option Addr} {l : List α} : Lasts lo (fun w => Rdl w lo size f A l) := fun _ _ h hk => h.keep hk
theorem HunkR.lasts {lo : Nat} {h : HunkC} : Lasts lo (fun w => HunkR w lo h) := fun _ _ hR hk => ⟨hR.old.keep hk, hR.new.keep hk, hR.ob, hR.nb, hR.at_⟩
theorem HunkR.mono {w : World} {lo lo' : Nat} {h : HunkC} (hR : HunkR w lo h) (hl : lo' ≤ lo) : HunkR w lo' h := ⟨hR.old.mono hl, hR.new.mono hl, hR.ob, hR.nb, hR.at_⟩
structure PatR (w : World) (lo : Nat) (A : Option Addr) (c : Nat) (hs : List HunkC) : Prop where
  rd : Rdl w lo 3 hunkCells A hs
  each : ∀ h ∈ hs, HunkR w lo h
  sb : SB A hs.length c 56
theorem PatR.lasts {lo : Nat} {A : Option Addr} {c : Nat} {hs : List HunkC} : Lasts lo (fun w => PatR w lo A c hs) := fun w w' hR hk => ⟨hR.rd.keep hk, fun h hh => HunkR.lasts w w' (hR.each h hh) hk, hR.sb⟩
theorem PatR.mono {w : World} {lo lo' : Nat} {A : Option Addr} {c : Nat} {hs : List HunkC} (hR : PatR w lo A c hs) (hl : lo' ≤ lo) : PatR w lo' A c hs := ⟨hR.rd.mono hl, fun h hh => (hR.each h hh).mono hl, hR.sb⟩
abbrev pls (hs : List HunkC) : List Hunk := hs.map HunkC.pl
structure PatC where
  A : Option Addr
  c : Nat
  hs : List HunkC
abbrev patCells (p : PatC) : List Value := [.slice p.A p.hs.length p.c]
abbrev PatC.pl (p : PatC) : List Hunk := pls p.hs
structure PatsR (w : World) (lo : Nat) (A : Option Addr) (ps : List PatC) : Prop where
  rd : Rdl w lo 1 patCells A ps
  each : ∀ p ∈ ps, PatR w lo p.A p.c p.hs
theorem PatsR.lasts {lo : Nat} {A : Option Addr} {ps : List PatC} : Lasts lo (fun w => PatsR w lo A ps) := fun w w' hR hk => ⟨hR.rd.keep hk, fun h hh => PatR.lasts w w' (hR.each h hh) hk⟩
theorem PatsR.mono {w : World} {lo lo' : Nat} {A : Option Addr} {ps : List PatC} (hR : PatsR w lo A ps) (hl : lo' ≤ lo) : PatsR w lo' A ps := ⟨hR.rd.mono hl, fun h hh => (hR.each h hh).mono hl⟩
end Go.Cf
namespace Go.Cf
open Go.RowKit
def splitB : Bs → List Bs
  | [] => [[]]
  | c :: r => if c = 32 then [] :: splitB r else match splitB r with
    | h :: t => (c :: h) :: t
    | [] => [[c]]
def cutB (s : ByteArray) : List ByteArray := (splitB (bsOf s)).map baOf
end Go.Cf
namespace Go.Cf
open Go.RowKit
structure Rule where
  pat : ByteArray
  users : List Int
  deriving DecidableEq
structure RuleC where
  pl : Rule
  A : Option Addr
  c : Nat
abbrev ruleCells (a : RuleC) : List Value := [.string a.pl.pat, .slice a.A a.pl.users.length a.c]
abbrev ruleV (a : RuleC) : Value := .agg #[.string a.pl.pat, .slice a.A a.pl.users.length a.c]
structure RuleR (w : World) (lo : Nat) (a : RuleC) : Prop where
  rd : Rdl w lo 1 intCells a.A a.pl.users
  sb : SB a.A a.pl.users.length a.c 8
structure RulesR (w : World) (lo : Nat) (A : Option Addr) (c : Nat) (rs : List RuleC) : Prop where
  rd : Rdl w lo 2 ruleCells A rs
  each : ∀ a ∈ rs, RuleR w lo a
  sb : SB A rs.length c 40
theorem RuleR.lasts {lo : Nat} {a : RuleC} : Lasts lo (fun w => RuleR w lo a) := fun _ _ h hk => ⟨h.rd.keep hk, h.sb⟩
theorem RuleR.mono {w : World} {lo lo' : Nat} {a : RuleC} (h : RuleR w lo a) (hl : lo' ≤ lo) : RuleR w lo' a := ⟨h.rd.mono hl, h.sb⟩
theorem RulesR.lasts {lo : Nat} {A : Option Addr} {c : Nat} {rs : List RuleC} : Lasts lo (fun w => RulesR w lo A c rs) := fun w w' h hk => ⟨h.rd.keep hk, fun a ha => RuleR.lasts w w' (h.each a ha) hk, h.sb⟩
theorem RulesR.mono {w : World} {lo lo' : Nat} {A : Option Addr} {c : Nat} {rs : List RuleC} (h : RulesR w lo A c rs) (hl : lo' ≤ lo) : RulesR w lo' A c rs := ⟨h.rd.mono hl, fun a ha => (h.each a ha).mono hl, h.sb⟩
abbrev rls (rs : List RuleC) : List Rule := rs.map RuleC.pl
def uCode (last : Int) : List Int → Int
  | [] => 0
  | u :: l => if u < 0 ∨ 7 < u then 3 else if u ≤ last then 5 else uCode u l
def prevU (us : List Int) (k : Nat) : Int := if k = 0 then -1 else us[k - 1]?.getD 0
def ruleCode (r : Rule) : Int := if patCode r.pat ≠ 0 then patCode r.pat else if 4 < r.users.length then 2 else uCode (-1) r.users
def rulesF (l : List Rule) : Fault := if 20 < l.length then ⟨2, -1⟩ else scan (fun _ r => ruleCode r) l
section
variable {us : List Int} {k : Nat} {p : Int}
theorem prevU_pos (h : 0 < k) (hk : k - 1 < us.length) : prevU us k = us[k - 1] := by rw [prevU, if_neg (by omega), List.getElem?_eq_getElem hk]; rfl
theorem prevU_succ (hk : k < us.length) : prevU us (k + 1) = us[k] := by
  rw [prevU_pos (by omega) (by simpa using hk)]; simp
theorem uCode_bad (hk : k < us.length) (h : us[k] < 0 ∨ 7 < us[k]) : uCode p (us.drop k) = 3 := by
  rw [List.drop_eq_getElem_cons hk, uCode, if_pos h]
theorem uCode_old (hk : k < us.length) (h : ¬ (us[k] < 0 ∨ 7 < us[k])) (h2 : us[k] ≤ p) : uCode p (us.drop k) = 5 := by
  rw [List.drop_eq_getElem_cons hk, uCode, if_neg h, if_pos h2]
theorem uCode_next (hk : k < us.length) (h : ¬ (us[k] < 0 ∨ 7 < us[k])) (h2 : ¬ us[k] ≤ p) : uCode p (us.drop k) = uCode (prevU us (k + 1)) (us.drop (k + 1)) := by
  rw [List.drop_eq_getElem_cons hk, uCode, if_neg h, if_neg h2, prevU_succ hk]
theorem uCode_end (hk : ¬ k < us.length) : uCode p (us.drop k) = 0 := by
  rw [List.drop_of_length_le (by omega)]; rfl
end
theorem MZ (s : ByteArray) : (patFault s).code = (patCode s : Int) := by
  unfold patFault; split
  · rename_i h; simp [h]
  · rfl
theorem rulesF_len {l : List Rule} (h : rulesF l = ⟨0, 0⟩) : l.length ≤ 20 := by
  unfold rulesF at h
  by_cases h1 : 20 < l.length
  · rw [if_pos h1] at h; cases h
  · omega
theorem Xs {l : List Rule} (h : rulesF l = ⟨0, 0⟩) : ∀ r ∈ l, ruleCode r = 0 := by
  have h1 := rulesF_len h
  rw [rulesF, if_neg (by omega)] at h
  intro r hr
  obtain ⟨j, hj, rfl⟩ := List.getElem_of_mem hr
  exact Wk.1 h j hj
theorem rulesF_zero {l : List Rule} : rulesF l = ⟨0, 0⟩ ↔ l.length ≤ 20 ∧ ∀ r ∈ l, ruleCode r = 0 := by
  constructor
  · intro h; exact ⟨rulesF_len h, Xs h⟩
  · rintro ⟨h1, h2⟩
    rw [rulesF, if_neg (by omega)]
    exact Qy fun j hj => h2 _ (List.getElem_mem hj)
theorem rulesF_code {l : List Rule} (h : (rulesF l).code = 0) : rulesF l = ⟨0, 0⟩ := by
  unfold rulesF at h ⊢
  split
  · rename_i h1; rw [if_pos h1] at h; cases h
  · rename_i h1; rw [if_neg h1] at h; exact Ux h
theorem Ye {r : Rule} (h : ruleCode r = 0) : patFault r.pat = ⟨0, 0⟩ ∧ r.users.length ≤ 4 ∧ uCode (-1) r.users = 0 := by
  unfold ruleCode at h
  by_cases h1 : patCode r.pat = 0
  · rw [if_neg (by simpa using h1)] at h
    by_cases h2 : 4 < r.users.length
    · rw [if_pos h2] at h; cases h
    · rw [if_neg h2] at h
      exact ⟨by rw [patFault, if_pos h1], by omega, h⟩
  · rw [if_pos h1] at h; exact absurd h (by omega)
theorem uCode_zero : ∀ {us : List Int} {p : Int}, uCode p us = 0 → (∀ u ∈ us, 0 ≤ u ∧ u ≤ 7 ∧ p < u) ∧ us.Pairwise (· < ·)
  | [], _, _ => ⟨fun _ h => (by cases h), .nil⟩
  | u :: us, p, h => by
    rw [uCode] at h
    by_cases h1 : u < 0 ∨ 7 < u
    · rw [if_pos h1] at h; cases h
    · rw [if_neg h1] at h
      by_cases h2 : u ≤ p
      · rw [if_pos h2] at h; cases h
      · rw [if_neg h2] at h
        obtain ⟨h3, h4⟩ := uCode_zero h
        refine ⟨fun x hx => ?_, List.pairwise_cons.2 ⟨fun x hx => (h3 x hx).2.2, h4⟩⟩
        rcases List.mem_cons.1 hx with rfl | hx
        · exact ⟨by omega, by omega, by omega⟩
        · have h5 := h3 x hx
          exact ⟨h5.1, h5.2.1, by omega⟩
def matchR (path : ByteArray) (r : Rule) : Bool := wk (cutS r.pat) (cutS path)
def findU (rs : List Rule) (path : ByteArray) : List Int := ((rs.reverse.find? (matchR path)).map Rule.users).getD []
abbrev noRule : RuleC := ⟨⟨⟨#[]⟩, []⟩, none, 0⟩
def backL (rs : List RuleC) : List (Int × RuleC) := (List.range rs.length).map fun (k : Nat) => ((rs.length : Int) - 1 - k, rs[rs.length - 1 - k]?.getD noRule)
theorem MJ (rs : List RuleC) : (backL rs).length = rs.length := by simp [backL]
theorem backL_at {rs : List RuleC} {k : Nat} (h : k < rs.length) : (backL rs)[k]? = some ((rs.length : Int) - 1 - k, rs[rs.length - 1 - k]) := by
  simp only [backL, List.getElem?_map, List.getElem?_range h, Option.map_some, Option.some.injEq, Prod.mk.injEq, true_and]
  rw [List.getElem?_eq_getElem (by omega)]; rfl
theorem backL_inv {rs : List RuleC} {k : Nat} {x : Int × RuleC} (h : (backL rs)[k]? = some x) : k < rs.length ∧ ∃ h2 : rs.length - 1 - k < rs.length, x.2 = rs[rs.length - 1 - k] := by
  have hk : k < rs.length := by
    have := (List.getElem?_eq_some_iff.1 h).1
    rwa [MJ] at this
  rw [backL_at hk] at h
  injection h with h
  exact ⟨hk, by omega, by rw [← h]⟩
theorem find_rev {rs : List Rule} {p : Rule → Bool} {k : Nat} (hk : k < rs.length) (hp : p rs[k] = true) (hn : ∀ j (h : j < rs.length), k < j → p rs[j] = false) : rs.reverse.find? p = some rs[k] := by
  have e : rs = rs.take k ++ rs[k] :: rs.drop (k + 1) := by rw [← List.drop_eq_getElem_cons hk, List.take_append_drop]
  have h1 : (rs.drop (k + 1)).reverse.find? p = none := by
    rw [List.find?_eq_none]
    intro x hx
    obtain ⟨j, hj, rfl⟩ := List.getElem_of_mem (List.mem_reverse.1 hx)
    rw [List.getElem_drop]
    simp only [List.length_drop] at hj
    simp [hn (k + 1 + j) (by omega) (by omega)]
  have h2 : rs.reverse = (rs.drop (k + 1)).reverse ++ rs[k] :: (rs.take k).reverse := by
    rw [congrArg List.reverse e]; simp
  rw [h2, List.find?_append, h1, Option.none_or, List.find?_cons, hp]
theorem find_none {rs : List Rule} {p : Rule → Bool} (hn : ∀ j (h : j < rs.length), p rs[j] = false) : rs.reverse.find? p = none := by
  rw [List.find?_eq_none]
  intro x hx
  obtain ⟨j, hj, rfl⟩ := List.getElem_of_mem (List.mem_reverse.1 hx)
  simp [hn j hj]
theorem findU_hit {rs : List RuleC} {path : ByteArray} {k : Nat} (hk : k < rs.length) (hp : matchR path rs[k].pl = true) (hn : ∀ j (h : j < rs.length), k < j → matchR path rs[j].pl = false) : findU (rls rs) path = rs[k].pl.users := by
  have hk' : k < (rls rs).length := by simpa using hk
  rw [findU, find_rev hk' (by simpa using hp) (fun j h1 h2 => by simpa using hn j (by simpa using h1) h2)]
  simp
theorem findU_none {rs : List RuleC} {path : ByteArray} (hn : ∀ j (h : j < rs.length), matchR path rs[j].pl = false) : findU (rls rs) path = [] := by
  rw [findU, find_none (fun j h1 => by simpa using hn j (by simpa using h1))]; rfl
theorem findU_mem (rs : List Rule) (path : ByteArray) : findU rs path = [] ∨ ∃ r ∈ rs, findU rs path = r.users := by
  unfold findU
  cases h : rs.reverse.find? (matchR path) with
  | none => exact .inl rfl
  | some r => exact .inr ⟨r, List.mem_reverse.1 (List.mem_of_find?_eq_some h), rfl⟩
def ofV (rs : List Rule) (path : ByteArray) : List Int := if rulesF rs = ⟨0, 0⟩ ∧ pathOk path = true then findU rs path else []
def ofF (rs : List Rule) (path : ByteArray) : Fault := if rulesF rs ≠ ⟨0, 0⟩ then rulesF rs else if pathOk path then ⟨0, 0⟩ else ⟨12, -2⟩
end Go.Cf
namespace Go.Cf
open Go.RowKit
def digitW (w : ByteArray) : Option Int := if w.size = 1 ∧ 48 ≤ byteAt w 0 ∧ byteAt w 0 ≤ 57 then some ((byteAt w 0 : Int) - 48) else none
def readU : List ByteArray → List Int × Bool
  | [] => ([], true)
  | w :: l => match digitW w with
    | none => ([], false)
    | some d => (d :: (readU l).1, (readU l).2)
structure ReadTo (ws : List ByteArray) (k : Nat) (us : List Int) : Prop where
  all : (readU ws).1 = us ++ (readU (ws.drop k)).1
  ok : (readU ws).2 = (readU (ws.drop k)).2
  len : us.length = k
theorem ReadTo.zero (ws : List ByteArray) : ReadTo ws 0 [] := ⟨rfl, rfl, rfl⟩
theorem ReadTo.next {ws : List ByteArray} {k : Nat} {us : List Int} {d : Int} (h : ReadTo ws k us) (hk : k < ws.length) (hd : digitW ws[k] = some d) : ReadTo ws (k + 1) (us ++ [d]) := by
  have e : readU (ws.drop k) = (d :: (readU (ws.drop (k + 1))).1, (readU (ws.drop (k + 1))).2) := by
    rw [List.drop_eq_getElem_cons hk, readU, hd]
  refine ⟨?_, ?_, by simp [h.len]⟩
  · rw [h.all, e]; simp
  · rw [h.ok, e]
theorem ReadTo.stop {ws : List ByteArray} {k : Nat} {us : List Int} (h : ReadTo ws k us) (hk : k < ws.length) (hd : digitW ws[k] = none) : readU ws = (us, false) := by
  have e : readU (ws.drop k) = ([], false) := by rw [List.drop_eq_getElem_cons hk, readU, hd]
  rw [show readU ws = ((readU ws).1, (readU ws).2) from rfl, h.all, h.ok, e]; simp
theorem ReadTo.done {ws : List ByteArray} {k : Nat} {us : List Int} (h : ReadTo ws k us) (hk : ¬ k < ws.length) : readU ws = (us, true) := by
  have e : readU (ws.drop k) = ([], true) := by rw [List.drop_of_length_le (by omega)]; rfl
  rw [show readU ws = ((readU ws).1, (readU ws).2) from rfl, h.all, h.ok, e]; simp
def headW (ws : List ByteArray) : ByteArray := ws[0]?.getD ⟨#[]⟩
def lineR (line : ByteArray) : Rule := ⟨headW (cutB line), (readU ((cutB line).drop 1)).1⟩
def lineC (line : ByteArray) : Int := if (readU ((cutB line).drop 1)).2 = true then ruleCode (lineR line) else 1
def skipL (s : ByteArray) : Bool := strEq s ⟨#[]⟩ || decide (byteAt s 0 = 35)
def readL : List ByteArray → List Rule
  | [] => []
  | s :: l => if skipL s = true then readL l else lineR s :: readL l
def badL (s : ByteArray) : Int := if skipL s = true then 0 else lineC s
def fileF (text : List ByteArray) : Fault := if linesF text ≠ ⟨0, 0⟩ then linesF text else if scan (fun _ s => badL s) text ≠ ⟨0, 0⟩ then scan (fun _ s => badL s) text else if 20 < (readL text).length then ⟨2, -1⟩ else ⟨0, 0⟩
def fileV (text : List ByteArray) : List Rule := if fileF text = ⟨0, 0⟩ then readL text else []
theorem readL_take {text : List ByteArray} {k : Nat} (hk : k < text.length) : readL (text.take (k + 1)) = readL (text.take k) ++ (if skipL text[k] = true then [] else [lineR text[k]]) := by
  have key : ∀ (a b : List ByteArray), readL (a ++ b) = readL a ++ readL b := by
    intro a b
    induction a with
    | nil => rfl
    | cons s a ih => simp only [List.cons_append, readL]; split <;> simp [ih]
  rw [List.take_succ_eq_append_getElem hk, key]
  congr 1
end Go.Cf
namespace Go.Cf
theorem strEq_ne2 {a b : ByteArray} (h : (!(a.toList == b.toList)) = true) : a ≠ b := fun e => by subst e; simp at h
end Go.Cf
namespace Go.Cf
open Go.RowKit
def dMod : Int := 2305843009213693951
def mulN : Nat → Int → Int → Int → Int
  | 0, out, _, _ => out
  | n + 1, out, a, b => if 0 < b then mulN n (if b % 2 = 1 then (out + a) % dMod else out) (2 * a % dMod) (b / 2) else out
def mulD (a b : Int) : Int := mulN 63 0 a b
def nextD (x y f : Int) : Int := (mulD x f + y) % dMod
def ofL (h : Int) (bs : List UInt8) : Int := bs.foldl (fun h b => nextD h ((b.toNat : Int) + 1) 257) h
def ofD (s : ByteArray) : Int := ofL 1 s.data.toList
def pairD (a b : Int) : Int := nextD a (nextD b 7 31) 1000003
def strL (h : Int) (l : List ByteArray) : Int := l.foldl (fun h s => pairD h (ofD s)) h
def strD (l : List ByteArray) : Int := strL 2 l
structure MulI (n : Nat) (out a b : Int) : Prop where
  o0 : 0 ≤ out
  o1 : out < dMod
  a0 : 0 ≤ a
  a1 : a < dMod
  b0 : 0 ≤ b
  b1 : b < 2 ^ n
theorem dMod_pos : (0 : Int) < dMod := by decide
theorem mulN_stop {n : Nat} {out a b : Int} (h : ¬ 0 < b) : mulN n out a b = out := by
  cases n with
  | zero => rfl
  | succ n => rw [mulN, if_neg h]
theorem MulI.pos {n : Nat} {out a b : Int} (h : MulI n out a b) (hb : 0 < b) : 0 < n := by
  rcases Nat.eq_zero_or_pos n with h0 | h0
  · subst h0; have h1 := h.b1; simp at h1; omega
  · exact h0
theorem MulI.next {n : Nat} {out a b : Int} (h : MulI n out a b) (hb : 0 < b) : MulI (n - 1) (if b % 2 = 1 then (out + a) % dMod else out) (2 * a % dMod) (b / 2) := by
  have hn := h.pos hb
  obtain ⟨m, rfl⟩ : ∃ m, n = m + 1 := ⟨n - 1, by omega⟩
  have h2 : (2 : Int) ^ (m + 1) = 2 * 2 ^ m := by rw [Int.pow_succ, Int.mul_comm]
  have h1 := h.b1
  rw [h2] at h1
  have hp := dMod_pos
  refine ⟨?_, ?_, Int.emod_nonneg _ (by omega), Int.emod_lt_of_pos _ hp, by have := h.b0; omega, ?_⟩
  · split
    · exact Int.emod_nonneg _ (by omega)
    · exact h.o0
  · split
    · exact Int.emod_lt_of_pos _ hp
    · exact h.o1
  · show b / 2 < 2 ^ (m + 1 - 1)
    rw [Nat.add_sub_cancel]
    have := h.b0
    generalize (2 : Int) ^ m = q at h1 ⊢
    omega
theorem mulN_next {n : Nat} {out a b : Int} (h : MulI n out a b) (hb : 0 < b) : mulN (n - 1) (if b % 2 = 1 then (out + a) % dMod else out) (2 * a % dMod) (b / 2) = mulN n out a b := by
  have hn := h.pos hb
  obtain ⟨m, rfl⟩ : ∃ m, n = m + 1 := ⟨n - 1, by omega⟩
  rw [mulN, if_pos hb]; rfl
theorem mulN_bd : ∀ (n : Nat) (out a b : Int), MulI n out a b → 0 ≤ mulN n out a b ∧ mulN n out a b < dMod
  | 0, out, a, b, h => ⟨h.o0, h.o1⟩
  | n + 1, out, a, b, h => by
    by_cases hb : 0 < b
    · rw [← mulN_next h hb]
      exact mulN_bd n _ _ _ (h.next hb)
    · rw [mulN_stop hb]; exact ⟨h.o0, h.o1⟩
theorem mulI_start {a b : Int} (h0 : 0 ≤ a) (h1 : a < dMod) (h2 : 0 ≤ b) (h3 : b < 9223372036854775808) : MulI 63 0 a b := ⟨Int.le_refl _, dMod_pos, h0, h1, h2, h3⟩
theorem mulD_bd {a b : Int} (h0 : 0 ≤ a) (h1 : a < dMod) (h2 : 0 ≤ b) (h3 : b < 9223372036854775808) : 0 ≤ mulD a b ∧ mulD a b < dMod := mulN_bd _ _ _ _ (mulI_start h0 h1 h2 h3)
theorem nextD_bd (x y f : Int) : 0 ≤ nextD x y f ∧ nextD x y f < dMod := ⟨Int.emod_nonneg _ (by have := dMod_pos; omega), Int.emod_lt_of_pos _ dMod_pos⟩
theorem ofL_bd : ∀ (l : List UInt8) (h : Int), 0 ≤ h ∧ h < dMod → 0 ≤ ofL h l ∧ ofL h l < dMod
  | [], h, hh => hh
  | b :: l, h, _ => ofL_bd l _ (nextD_bd _ _ _)
theorem ofD_bd (s : ByteArray) : 0 ≤ ofD s ∧ ofD s < dMod := ofL_bd _ _ (by decide)
theorem ofL_take {l : List UInt8} {h : Int} {k : Nat} (hk : k < l.length) : ofL h (l.take (k + 1)) = nextD (ofL h (l.take k)) ((l[k].toNat : Int) + 1) 257 := by
  unfold ofL
  rw [List.take_succ_eq_append_getElem hk, List.foldl_append]; rfl
theorem strL_bd : ∀ (l : List ByteArray) (h : Int), 0 ≤ h ∧ h < dMod → 0 ≤ strL h l ∧ strL h l < dMod
  | [], h, hh => hh
  | b :: l, h, _ => strL_bd l _ (nextD_bd _ _ _)
theorem strD_bd (l : List ByteArray) : 0 ≤ strD l ∧ strD l < dMod := strL_bd _ _ (by decide)
theorem strL_take {l : List ByteArray} {h : Int} {k : Nat} (hk : k < l.length) : strL h (l.take (k + 1)) = pairD (strL h (l.take k)) (ofD l[k]) := by
  unfold strL
  rw [List.take_succ_eq_append_getElem hk, List.foldl_append]; rfl
abbrev u8Cells (b : UInt8) : List Value := [.int .u8 b.toNat]
def brow (b : Nat) (s : ByteArray) : Reg :=
  ⟨fun k => k = b, fun w => ∀ j, (hj : j < s.data.toList.length) → w.cell? ⟨b, j, none⟩ = some (.int .u8 (s.data.toList[j]).toNat), fun _ _ h hw j hj => by rw [World.cell?_of_block (h b rfl)]; exact hw j hj⟩
theorem brow_rdl {b : Nat} {s : ByteArray} {w : World} (h : (brow b s).ok w) : Rdl w b 1 u8Cells (some ⟨b, 0, none⟩) s.data.toList := fun _ => ⟨_, rfl, Nat.le_refl _, fun k x hk j u hu => by
  obtain ⟨hk1, rfl⟩ := List.getElem?_eq_some_iff.1 hk
  have hj : j = 0 := by have h9 := (List.getElem?_eq_some_iff.1 hu).1; simp at h9; omega
  subst hj
  simp only [u8Cells, List.getElem?_cons_zero, Option.some.injEq] at hu
  rw [Addr.add_lit, ← hu]
  have h9 := h k hk1
  simpa using h9⟩
section
variable {P : Program} {n : Fr} {w0 : World} {N : Env → World → Prop} {ρ : Env} {T : List Reg} {full : Array Oper} {rest : List Oper} {dst : Option Tmp} {ty t : TypeId} {pos : String} {af : Array Edge} {gd : Option (Nat × Bool)} {x y : Operand} {a b : Int}
theorem y_rem {yt : TypeId} (hx : ev ρ x = .int .i64 a) (hy : ev ρ y = .int .i64 b) (h0 : 0 ≤ a) (h1 : 0 < b) (h2 : b < 9223372036854775808) : Yield P w0 T ρ ⟨dst, .binOp .rem t x y yt, ty, pos, af, gd⟩ (.int .i64 (a % b)) := fun _ _ => by
  have hb : b ≠ 0 := by omega
  simp [execOp, go_sem, hx, hy, Op.intDiv, hb, Int.tmod_eq_emod_of_nonneg h0]
theorem wrap_u64 {a : Int} (h0 : 0 ≤ a) (h1 : a < 18446744073709551616) : IntKind.u64.wrap a = a := by
  rw [IntKind.wrap_u64]; omega
theorem y_toU (hs : (P.underlying t).isSome = true) {d : TypeId} (hd : P.underlying d = some (.int .u64)) (hx : ev ρ x = .int .i64 a) (h0 : 0 ≤ a) (h1 : a < 18446744073709551616) : Yield P w0 T ρ ⟨dst, .convert t d x, ty, pos, af, gd⟩ (.int .u64 a) := fun w _ => by
  have hk : P.intKind d = .u64 := by simp [Program.intKind, hd]
  have h := run_convert_int (P := P) w t d .i64 a hs (by rw [hk]; exact hd)
  rw [hk, wrap_u64 h0 h1] at h
  simp [execOp, hx, h]
theorem y_ofU (hs : (P.underlying t).isSome = true) {d : TypeId} (hd : P.underlying d = some (.int .i64)) (hx : ev ρ x = .int .u64 a) (h0 : 0 ≤ a) (h1 : a < 9223372036854775808) : Yield P w0 T ρ ⟨dst, .convert t d x, ty, pos, af, gd⟩ (.int .i64 a) := fun w _ => by
  have hk : P.intKind d = .i64 := by simp [Program.intKind, hd]
  have h := run_convert_int (P := P) w t d .u64 a hs (by rw [hk]; exact hd)
  rw [hk, wrap_in (show In64 a by unfold In64; omega)] at h
  simp [execOp, hx, h]
theorem y_shr1 {yt : TypeId} {k : IntKind} (hx : ev ρ x = .int .i64 a) (hy : ev ρ y = .int k 1) : Yield P w0 T ρ ⟨dst, .binOp .shr t x y yt, ty, pos, af, gd⟩ (.int .i64 (a / 2)) := fun _ _ => by
  simp [execOp, go_sem, hx, hy, shift_shr_i64 _ _ _ (show (0 : Int) ≤ 1 by decide) (show (1 : Int) ≤ 64 by decide)]
theorem y_shrU {yt : TypeId} {k : IntKind} (hx : ev ρ x = .int .u64 a) (hy : ev ρ y = .int k 1) : Yield P w0 T ρ ⟨dst, .binOp .shr t x y yt, ty, pos, af, gd⟩ (.int .u64 (a / 2)) := fun _ _ => by
  simp [execOp, go_sem, hx, hy, shift_shr_u64 _ _ _ (show (0 : Int) ≤ 1 by decide) (show (1 : Int) ≤ 64 by decide)]
theorem y_leqs {yt : TypeId} {a b : ByteArray} (hx : ev ρ x = .string a) (hy : ev ρ y = .string b) : Yield P w0 T ρ ⟨dst, .binOp .leq t x y yt, ty, pos, af, gd⟩ (.bool (Op.bytesLess a.toList b.toList || a.toList == b.toList)) := fun _ _ => by
  simp [execOp, go_sem, hx, hy]
theorem Zm {e : TypeId} {s len cap m : Nat} {a : Addr} {hi : Int} {kh : IntKind} (ht : P.underlying t = some (.slice e)) (hs : ∀ w, (sizeOf e).run P w = .ok s w)
    (hx : ev ρ x = .slice (some a) len cap) (hz : ev ρ y = .int kh hi) (h0 : 0 ≤ hi) (h2 : hi ≤ cap) (hm : hi.toNat = m) :
    Yield P w0 T ρ ⟨dst, .slice t x none (some y) none, ty, pos, af, gd⟩ (.slice (some a) m cap) := by
  have h := y_slice_hi (P := P) (w0 := w0) (T := T) (dst := dst) (ty := ty) (pos := pos) (af := af) (gd := gd) ht hs hx hz h0 h2
  subst hm
  have e1 : sliced (some a) 0 hi.toNat cap s = .slice (some a) hi.toNat cap := by
    unfold sliced
    simp [Addr.add]
  rwa [e1] at h
theorem mem_bytes {w : World} (hM : Mem w0 T w) (e : TypeId) (s : ByteArray) : Mem w0 (T ++ [brow w.heap.size s]) (Lib.bytesWorld w e s) := by
  have hb : Below w.heap.size w (Lib.bytesWorld w e s) := ⟨rfl, rfl, rfl, by rw [Lib.bytesWorld_size]; omega, fun k hk => Lib.bytesWorld_at_old w e s k hk⟩
  refine hM.add hb ?_ ?_
  · intro j hj
    rw [Lib.bytesWorld_cell w e s j (by simpa using hj)]
    have h9 : s.data.toList.getD j 0 = s.data.toList[j] := by rw [List.getD_eq_getElem?_getD, List.getElem?_eq_getElem hj]; rfl
    rw [h9]
  · intro b h9
    have hb' : b = w.heap.size := h9
    rw [Lib.bytesWorld_size]; omega
theorem gop_bytes {src dt e : TypeId} {d : Tmp} {s : ByteArray} {u : TypeDesc} (hs : P.underlying src = some u) (hd : P.underlying dt = some (.slice e)) (he : P.underlying e = some (.int .u8)) (hx : ev ρ x = .string s) (hlt : Nat.blt d n.n = true)
    (h : ∀ b c, w0.heap.size ≤ b → gops P n w0 full rest N (upd ρ d (.slice (some ⟨b, 0, none⟩) s.size c)) (T ++ [brow b s])) :
    gops P n w0 full (⟨some d, .convert src dt x, ty, pos, af, none⟩ :: rest) N ρ T :=
  Zl (fun w hM => ⟨.slice (some ⟨w.heap.size, 0, none⟩) s.size (grownCap w s.size 0 e), Lib.bytesWorld w e s, by
      simp [execOp, hx, Lib.run_convert_string_bytes w src dt e s hs hd he], h _ _ hM.low.size _ (mem_bytes hM e s)⟩) rfl rfl hlt
end
theorem Yv {a b : ByteArray} (h : (a.toList == b.toList) = true) : a = b := by
  rw [beq_iff_eq, ByteArray.toList_eq, ByteArray.toList_eq, Array.toList_inj] at h
  exact ByteArray.ext h
theorem sb_ne_f {a b : ByteArray} (h : (a.toList == b.toList) = false) : a ≠ b := fun e => by
  subst e; simp at h
theorem linesF_sizes {l : List ByteArray} (h : linesF l = ⟨0, 0⟩) : ∀ s ∈ l, s.size ≤ 80 := by
  intro s hs
  have hl := Qu h
  rw [linesF, if_neg (by omega)] at h
  obtain ⟨j, hj, rfl⟩ := List.getElem_of_mem hs
  have h1 := Wk.1 h j hj
  unfold lineCode at h1
  split at h1
  · cases h1
  · omega
def slash : ByteArray := ⟨#[47]⟩
def hasP (s p : ByteArray) : Bool := Lib.hasPrefix s.data.toList p.data.toList
def relP (a b : ByteArray) : Bool := decide (a = b) || (hasP a (b ++ slash) || hasP b (a ++ slash))
structure FileP where
  path : ByteArray
  lines : List ByteArray
  deriving DecidableEq
structure FileC where
  pl : FileP
  A : Option Addr
  c : Nat
abbrev fileCells (f : FileC) : List Value := [.string f.pl.path, .slice f.A f.pl.lines.length f.c]
theorem Uq : Wide fileCells 2 := fun _ => ⟨rfl, by simp [fileCells, Value.oneCell']⟩
abbrev fpl (fs : List FileC) : List FileP := fs.map FileC.pl
structure FileR (w : World) (lo : Nat) (f : FileC) : Prop where
  rd : Rdl w lo 1 strCells f.A f.pl.lines
  sb : SB f.A f.pl.lines.length f.c 16
structure TreeR (w : World) (lo : Nat) (A : Option Addr) (c : Nat) (fs : List FileC) : Prop where
  rd : Rdl w lo 2 fileCells A fs
  each : ∀ f ∈ fs, FileR w lo f
  sb : SB A fs.length c 40
theorem FileR.base {w0 w : World} {T : List Reg} {lo : Nat} {f : FileC} (h : FileR w0 lo f) (hM : Mem w0 T w) : FileR w lo f := ⟨h.rd.base hM, h.sb⟩
theorem TreeR.base {w0 w : World} {T : List Reg} {lo : Nat} {A : Option Addr} {c : Nat} {fs : List FileC} (h : TreeR w0 lo A c fs) (hM : Mem w0 T w) : TreeR w lo A c fs := ⟨h.rd.base hM, fun f hf => (h.each f hf).base hM, h.sb⟩
def clashF (path : ByteArray) (ex : Int) : Nat → List FileP → Bool
  | _, [] => false
  | i, f :: l => (decide ((i : Int) ≠ ex) && relP f.path path) || clashF path ex (i + 1) l
theorem UY {path : ByteArray} {ex : Int} : ∀ {l : List FileP} {i : Nat} (k : Nat) (hk : k < l.length), ((i + k : Nat) : Int) ≠ ex → relP l[k].path path = true → clashF path ex i l = true
  | [], _, _, hk, _, _ => absurd hk (Nat.not_lt_zero _)
  | f :: l, i, 0, _, h1, h2 => by
    rw [clashF, decide_eq_true (by simpa using h1), show relP f.path path = true from h2]; rfl
  | f :: l, i, k + 1, hk, h1, h2 => by
    rw [clashF, UY (l := l) (i := i + 1) k (by simpa using hk) (by rw [Nat.add_assoc, Nat.add_comm 1 k]; exact h1) (by simpa using h2), Bool.or_true]
theorem clashF_no {path : ByteArray} {ex : Int} : ∀ {l : List FileP} {i : Nat}, (∀ k (hk : k < l.length), ((i + k : Nat) : Int) ≠ ex → relP l[k].path path = false) → clashF path ex i l = false
  | [], _, _ => rfl
  | f :: l, i, h => by
    rw [clashF, clashF_no (l := l) (i := i + 1) (fun k hk h1 => by
      have h2 := h (k + 1) (by simpa using hk) (by rw [Nat.add_comm k 1, ← Nat.add_assoc]; exact h1)
      simpa using h2), Bool.or_false]
    by_cases h1 : (i : Int) ≠ ex
    · have h2 := h 0 (by simp) (by simpa using h1)
      rw [show relP f.path path = false from h2, Bool.and_false]
    · rw [decide_eq_false h1]; rfl
def ltS (a b : ByteArray) : Prop := a.toList < b.toList
instance (a b : ByteArray) : Decidable (ltS a b) := inferInstanceAs (Decidable (a.toList < b.toList))
def prevS (fs : List FileP) (i : Nat) : ByteArray := ((fs[i - 1]?).map FileP.path).getD ByteArray.empty
def treeC (fs : List FileP) (i : Nat) (f : FileP) : Int :=
  if ¬ pathOk f.path = true then 12 else if 0 < i ∧ ¬ ltS (prevS fs i) f.path then 5 else if clashF f.path (-1) 0 (fs.take i) = true then 7 else (linesF f.lines).code
def treeF (fs : List FileP) : Fault := if 24 < fs.length then ⟨2, -1⟩ else scan (fun i f => treeC fs i f) fs
structure VTree (fs : List FileP) : Prop where
  len : fs.length ≤ 24
  ok : ∀ f ∈ fs, pathOk f.path = true
  lines : ∀ f ∈ fs, linesF f.lines = ⟨0, 0⟩
  lt : ∀ i (h : i + 1 < fs.length), ltS fs[i].path fs[i + 1].path
theorem Yq {fs : List FileP} {i : Nat} {f : FileP} (h : treeC fs i f = 0) : pathOk f.path = true ∧ (0 < i → ltS (prevS fs i) f.path) ∧ linesF f.lines = ⟨0, 0⟩ := by
  unfold treeC at h
  split at h
  · cases h
  · rename_i h1
    split at h
    · cases h
    · rename_i h2
      split at h
      · cases h
      · exact ⟨Classical.byContradiction h1, fun h3 => Classical.byContradiction fun h4 => h2 ⟨h3, h4⟩, Ua h⟩
theorem Qq {fs : List FileP} (h : treeF fs = ⟨0, 0⟩) : VTree fs := by
  unfold treeF at h
  split at h
  · cases h
  · rename_i hl
    have hz := Wk.1 h
    refine ⟨by omega, fun f hf => ?_, fun f hf => ?_, fun i hi => ?_⟩
    · obtain ⟨j, hj, rfl⟩ := List.getElem_of_mem hf
      exact (Yq (hz j hj)).1
    · obtain ⟨j, hj, rfl⟩ := List.getElem_of_mem hf
      exact (Yq (hz j hj)).2.2
    · have h1 := (Yq (hz (i + 1) hi)).2.1 (by omega)
      unfold prevS at h1
      rw [show i + 1 - 1 = i from rfl, List.getElem?_eq_getElem (by omega)] at h1
      exact h1
theorem Xi {a b c : ByteArray} (h1 : ltS a b) (h2 : ltS b c) : ltS a c := List.lt_trans h1 h2
theorem Wi (a : ByteArray) : ¬ ltS a a := List.lt_irrefl _
theorem VTree.mono {fs : List FileP} (v : VTree fs) : ∀ (i j : Nat) (_ : i < j) (hj : j < fs.length), ltS (fs[i]'(by omega)).path fs[j].path := by
  intro i j hij
  induction j with
  | zero => omega
  | succ j ih =>
    intro hj
    rcases Nat.lt_or_ge i j with h1 | h1
    · exact Xi (ih h1 (by omega)) (v.lt j hj)
    · obtain rfl : i = j := by omega
      exact v.lt i hj
end Go.Cf
namespace Go.Cf
open Go.RowKit
def readP : Bs → List Int × Bool
  | [] => ([], true)
  | [_] => ([], false)
  | a :: d :: r => if a = 32 ∧ 48 ≤ d.toNat ∧ d.toNat ≤ 57 then (((d.toNat : Int) - 48) :: (readP r).1, (readP r).2) else ([], false)
theorem drop_bs {s : ByteArray} {i : Nat} (h : i < s.size) : ∃ b, (bsOf s).drop i = b :: (bsOf s).drop (i + 1) ∧ byteAt s i = b.toNat := by
  have hl : i < (bsOf s).length := by rw [JM]; exact h
  exact ⟨(bsOf s)[i], List.drop_eq_getElem_cons hl, (byte_of (s := s) (List.getElem?_eq_getElem hl)).2⟩
theorem refR_next {s : ByteArray} {i : Nat} (hi : i + 1 < s.size) (h : byteAt s i = 32) (h0 : 48 ≤ byteAt s (i + 1)) (h1 : byteAt s (i + 1) ≤ 57) : readP ((bsOf s).drop i) = (((byteAt s (i + 1) : Int) - 48) :: (readP ((bsOf s).drop (i + 2))).1, (readP ((bsOf s).drop (i + 2))).2) := by
  obtain ⟨b, h2, h3⟩ := drop_bs (show i < s.size by omega)
  obtain ⟨d, h4, h5⟩ := drop_bs hi
  rw [h2, h4, readP, if_pos ⟨UInt8.toNat_inj.1 (by rw [← h3, h]; rfl), by omega, by omega⟩, h5]
structure ReadIn (s : ByteArray) (n i : Nat) (us : List Int) : Prop where
  all : (readP ((bsOf s).drop n)).1 = us ++ (readP ((bsOf s).drop i)).1
  ok : (readP ((bsOf s).drop n)).2 = (readP ((bsOf s).drop i)).2
theorem ReadIn.zero (s : ByteArray) (n : Nat) : ReadIn s n n [] := ⟨rfl, rfl⟩
theorem ReadIn.next {s : ByteArray} {n i : Nat} {us : List Int} (h : ReadIn s n i us) (hi : i + 1 < s.size) (hb : byteAt s i = 32) (h0 : 48 ≤ byteAt s (i + 1)) (h1 : byteAt s (i + 1) ≤ 57) : ReadIn s n (i + 2) (us ++ [(byteAt s (i + 1) : Int) - 48]) := by
  have e := refR_next hi hb h0 h1
  exact ⟨by rw [h.all, e]; simp, by rw [h.ok, e]⟩
structure GroupC where
  pl : List Int
  A : Option Addr
  c : Nat
structure GrR (w : World) (lo : Nat) (a : GroupC) : Prop where
  rd : Rdl w lo 1 intCells a.A a.pl
  len : a.pl.length ≤ a.c
  max : a.c ≤ maxLen
theorem GrR.mono {w : World} {lo lo' : Nat} {a : GroupC} (h : GrR w lo a) (hl : lo' ≤ lo) : GrR w lo' a := ⟨h.rd.mono hl, h.len, h.max⟩
theorem rdl_take {α : Type} {w : World} {lo size : Nat} {f : α → List Value} {A : Option Addr} {l : List α} (h : Rdl w lo size f A l) (k : Nat) : Rdl w lo size f A (l.take k) := fun hn => by
  have hn' : 0 < l.length := by
    rw [List.length_take] at hn; omega
  obtain ⟨ad, h1, h2, h3⟩ := h hn'
  refine ⟨ad, h1, h2, fun j x hx => h3 j x ?_⟩
  rw [List.getElem?_take] at hx
  split at hx
  · exact hx
  · cases hx
def hasI (l : List Int) (x : Int) : Bool := l.any (fun y => decide (x = y))
theorem hasI_mem {l : List Int} {x : Int} : hasI l x = true ↔ x ∈ l := by
  simp [hasI]
def badPath (_ : Nat) (p : ByteArray) : Int := if pathOk p = true then 0 else 12
def pathsF (ps : List ByteArray) : Fault := if (scan badPath ps).code = 0 then ⟨0, 0⟩ else ⟨12, -3 - (scan badPath ps).index⟩
def reqF (rs : List Rule) (ps : List ByteArray) : Fault := if rulesF rs ≠ ⟨0, 0⟩ then rulesF rs else if 24 < ps.length then ⟨2, -2⟩ else pathsF ps
theorem pathsF_ok {ps : List ByteArray} (h : ∀ j (h : j < ps.length), pathOk ps[j] = true) : pathsF ps = ⟨0, 0⟩ := by
  have h1 : scan badPath ps = ⟨0, 0⟩ := Qy fun j hj => by rw [badPath, if_pos (h j hj)]
  rw [pathsF, h1]; rfl
theorem pathsF_at {ps : List ByteArray} {k : Nat} (hk : k < ps.length) (h : ∀ j (h : j < ps.length), j < k → pathOk ps[j] = true) (hb : pathOk ps[k] = false) : pathsF ps = ⟨12, -3 - k⟩ := by
  have e : badPath k ps[k] = 12 := by rw [badPath, hb]; rfl
  have h1 := Uf (f := badPath) hk (fun j hj hjk => by rw [badPath, if_pos (h j hj hjk)]) (by rw [e]; decide)
  rw [pathsF, h1, e, if_neg (show ¬ (12 : Int) = 0 by decide)]
end Go.Cf
namespace Go.Cf
open Go.RowKit
def idxP {α : Type} (p : α → Bool) (l : List α) : Int := if l.any p = true then ((l.findIdx p : Nat) : Int) else -1
theorem idxP_hit {α : Type} {p : α → Bool} {l : List α} {k : Nat} (hk : k < l.length) (h : ∀ j (hj : j < l.length), j < k → p l[j] = false) (hp : p l[k] = true) : idxP p l = (k : Int) := by
  have h1 : l.any p = true := List.any_eq_true.2 ⟨_, List.getElem_mem hk, hp⟩
  rw [idxP, if_pos h1, (List.findIdx_eq hk).2 ⟨hp, fun j hj => h j (by omega) hj⟩]
theorem idxP_none {α : Type} {p : α → Bool} {l : List α} (h : ∀ j (hj : j < l.length), p l[j] = false) : idxP p l = -1 := by
  have h1 : l.any p = false := by
    rw [List.any_eq_false]
    intro x hx
    obtain ⟨j, hj, rfl⟩ := List.getElem_of_mem hx
    simp [h j hj]
  rw [idxP, h1, if_neg (by simp)]
theorem idxP_any {α : Type} (p : α → Bool) (l : List α) : decide ((0 : Int) ≤ idxP p l) = l.any p := by
  unfold idxP
  cases l.any p with
  | true => rw [if_pos rfl]; exact decide_eq_true (by omega)
  | false => rw [if_neg (by simp)]; rfl
end Go.Cf
namespace Go.Cf
open Go.RowKit
theorem Mem.cell {w0 w : World} {T : List Reg} (hM : Mem w0 T w) (i : Nat) {b off : Nat} {cs : Array Value} {e : TypeId} {fz : Nat × Nat} {v : Value} (hi : T[i]? = some (box b (.cells cs e fz))) (h : cs[off]? = some v) : w.cell? ⟨b, off, none⟩ = some v := Jm i hi h w hM
end Go.Cf
namespace Go.Cf
theorem of_ok {rs : List Rule} {p : ByteArray} (h : rulesF rs = ⟨0, 0⟩) (hp : pathOk p = true) : ofF rs p = ⟨0, 0⟩ ∧ ofV rs p = findU rs p := by
  constructor
  · rw [ofF, if_neg (fun h1 => h1 h), hp]; rfl
  · rw [ofV, if_pos ⟨h, hp⟩]
end Go.Cf
namespace Go.Cf
open Go.RowKit
def Reading (text : List ByteArray) (k : Nat) (p : Fault) (l : List Rule) : Prop :=
  (p = ⟨0, 0⟩ ∧ linesF text = ⟨0, 0⟩ ∧ (∀ j (h : j < text.length), j < k → badL text[j] = 0) ∧ l = readL (text.take k)) ∨ (p.code ≠ 0 ∧ p = fileF text)
section
variable {text : List ByteArray} {k : Nat} {p : Fault} {l : List Rule}
theorem Reading.zero (text : List ByteArray) : Reading text 0 (linesF text) [] := by
  by_cases h : linesF text = ⟨0, 0⟩
  · exact .inl ⟨h, h, fun _ _ h => absurd h (by omega), rfl⟩
  · exact .inr ⟨fun h1 => h (Ua h1), by rw [fileF, if_pos h]⟩
theorem Reading.good (h : Reading text k p l) (hp : p.code = 0) : p = ⟨0, 0⟩ ∧ linesF text = ⟨0, 0⟩ ∧ (∀ j (h : j < text.length), j < k → badL text[j] = 0) ∧ l = readL (text.take k) := by
  rcases h with h | h
  · exact h
  · exact absurd hp h.1
theorem Reading.skip (h : Reading text k p l) (hp : p.code = 0) (hk : k < text.length) (hs : skipL text[k] = true) : Reading text (k + 1) p l := by
  obtain ⟨h1, h2, h3, h4⟩ := h.good hp
  refine .inl ⟨h1, h2, fun j hj hjk => ?_, by rw [readL_take hk, hs]; simpa using h4⟩
  rcases Nat.lt_succ_iff_lt_or_eq.1 hjk with h5 | rfl
  · exact h3 j hj h5
  · rw [badL, if_pos hs]
theorem Reading.bad (h : Reading text k p l) (hp : p.code = 0) (hk : k < text.length) (hs : skipL text[k] = false) (hc : lineC text[k] ≠ 0) (l' : List Rule) : Reading text (k + 1) ⟨lineC text[k], k⟩ l' := by
  obtain ⟨h1, h2, h3, h4⟩ := h.good hp
  have hb : badL text[k] = lineC text[k] := by rw [badL, hs, if_neg (by simp)]
  have hsc := Uf (f := fun _ s => badL s) hk h3 (by rw [hb]; exact hc)
  refine .inr ⟨hc, ?_⟩
  rw [fileF, if_neg (fun h5 => h5 h2), hsc, hb, if_pos (fun h5 => hc (congrArg Fault.code h5))]
theorem Reading.done2 (h : Reading text k p l) (hst : ¬ (k < text.length ∧ p.code = 0)) (hp : p.code = 0) (hl : ¬ 20 < l.length) : fileF text = p ∧ l = fileV text := by
  obtain ⟨h1, h2, h3, h4⟩ := h.good hp
  have hk : ¬ k < text.length := fun h5 => hst ⟨h5, hp⟩
  have hsc : scan (fun _ s => badL s) text = ⟨0, 0⟩ := Qy fun j hj => h3 j hj (by omega)
  rw [List.take_of_length_le (by omega)] at h4
  have hF : fileF text = ⟨0, 0⟩ := by rw [fileF, if_neg (fun h5 => h5 h2), hsc, if_neg (fun h5 => h5 rfl), if_neg (by rw [← h4]; exact hl)]
  exact ⟨hF.trans h1.symm, by rw [fileV, if_pos hF, h4]⟩
theorem Reading.done3 (h : Reading text k p l) (hp : p.code ≠ 0) : fileF text = p := by
  rcases h with h | h
  · exact absurd (by rw [h.1]) hp
  · exact h.2.symm
theorem Reading.done (h : Reading text k p l) (hst : ¬ (k < text.length ∧ p.code = 0)) (hl : ¬ (p.code = 0 ∧ 20 < l.length)) : fileF text = p ∧ (p.code = 0 → l = fileV text) := by
  by_cases hp : p.code = 0
  · have := h.done2 hst hp (fun h1 => hl ⟨hp, h1⟩)
    exact ⟨this.1, fun _ => this.2⟩
  · exact ⟨h.done3 hp, fun h1 => absurd h1 hp⟩
end
def capF (ps : List ByteArray) : Fault := if 24 < ps.length then ⟨2, -2⟩ else ⟨0, 0⟩
def Checking (rs : List Rule) (ps : List ByteArray) (k : Nat) (q : Fault) : Prop :=
  (q = ⟨0, 0⟩ ∧ ps.length ≤ 24 ∧ ∀ j (h : j < ps.length), j < k → pathOk ps[j] = true) ∨ (q.code ≠ 0 ∧ q = reqF rs ps)
section
variable {rs : List Rule} {ps : List ByteArray} {k : Nat} {q : Fault}
theorem Checking.zero (h : rulesF rs = ⟨0, 0⟩) : Checking rs ps 0 (capF ps) := by
  unfold capF
  split
  · rename_i h1
    exact .inr ⟨by decide, by rw [reqF, if_neg (fun h2 => h2 h), if_pos h1]⟩
  · exact .inl ⟨rfl, by omega, fun _ _ h => absurd h (by omega)⟩
theorem Checking.good (h : Checking rs ps k q) (hq : q.code = 0) : q = ⟨0, 0⟩ ∧ ps.length ≤ 24 ∧ ∀ j (h : j < ps.length), j < k → pathOk ps[j] = true := by
  rcases h with h | h
  · exact h
  · exact absurd hq h.1
theorem Checking.ok (h : Checking rs ps k q) (hq : q.code = 0) (hk : k < ps.length) (hp : pathOk ps[k] = true) : Checking rs ps (k + 1) q := by
  obtain ⟨h1, h2, h3⟩ := h.good hq
  refine .inl ⟨h1, h2, fun j hj hjk => ?_⟩
  rcases Nat.lt_succ_iff_lt_or_eq.1 hjk with h5 | rfl
  · exact h3 j hj h5
  · exact hp
theorem Checking.bad (h : Checking rs ps k q) (hr : rulesF rs = ⟨0, 0⟩) (hq : q.code = 0) (hk : k < ps.length) (hp : pathOk ps[k] = false) : Checking rs ps (k + 1) ⟨12, -3 - k⟩ := by
  obtain ⟨h1, h2, h3⟩ := h.good hq
  exact .inr ⟨show ¬ (12 : Int) = 0 by decide, by rw [reqF, if_neg (fun h5 => h5 hr), if_neg (by omega), pathsF_at hk h3 hp]⟩
theorem Checking.stop (h : Checking rs ps k q) (hr : rulesF rs = ⟨0, 0⟩) (hst : ¬ (k < ps.length ∧ q.code = 0)) : reqF rs ps = q := by
  rcases h with h | h
  · obtain ⟨h1, h2, h3⟩ := h
    have hk : ¬ k < ps.length := fun h6 => hst ⟨h6, by rw [h1]⟩
    rw [reqF, if_neg (fun h5 => h5 hr), if_neg (by omega), pathsF_ok (fun j hj => h3 j hj (by omega)), h1]
  · exact h.2.symm
end
end Go.Cf
namespace Go.Cf
open Go.RowKit
theorem ltS_iff (a b : ByteArray) : ltS a b ↔ a.data.toList < b.data.toList := by unfold ltS; rw [ByteArray.toList_eq, ByteArray.toList_eq]
theorem cmpB_lt : ∀ a b : List UInt8, Lib.compareBytes a b < 0 ↔ a < b
  | [], [] => by simp [Lib.compareBytes]
  | [], _ :: _ => by simp [Lib.compareBytes]
  | _ :: _, [] => by simp [Lib.compareBytes]
  | a :: x, b :: y => by
    rw [Lib.compareBytes, List.cons_lt_cons_iff]
    by_cases h1 : a < b
    · simp [h1]
    · by_cases h2 : b < a
      · have h3 : a ≠ b := fun h => by subst h; exact h1 h2
        simp [h1, h2, h3]
      · have h3 : a = b := UInt8.le_antisymm (UInt8.not_lt.1 h2) (UInt8.not_lt.1 h1)
        subst h3
        simp [h1, cmpB_lt x y]
theorem cmpB_eq : ∀ a b : List UInt8, Lib.compareBytes a b = 0 ↔ a = b
  | [], [] => by simp [Lib.compareBytes]
  | [], _ :: _ => by simp [Lib.compareBytes]
  | _ :: _, [] => by simp [Lib.compareBytes]
  | a :: x, b :: y => by
    rw [Lib.compareBytes]
    by_cases h1 : a < b
    · have h3 : a ≠ b := fun h => by subst h; exact UInt8.lt_irrefl _ h1
      simp [h1, h3]
    · by_cases h2 : b < a
      · have h3 : a ≠ b := fun h => by subst h; exact h1 h2
        simp [h1, h2, h3]
      · have h3 : a = b := UInt8.le_antisymm (UInt8.not_lt.1 h2) (UInt8.not_lt.1 h1)
        subst h3
        simp [h1, cmpB_eq x y]
def cmpS (a b : ByteArray) : Int := Lib.compareBytes a.data.toList b.data.toList
theorem cmpS_lt {a b : ByteArray} : cmpS a b < 0 ↔ ltS a b := by rw [ltS_iff]; exact cmpB_lt _ _
theorem KY {a b : ByteArray} : cmpS a b = 0 ↔ a = b := by
  unfold cmpS
  rw [cmpB_eq]
  constructor
  · intro h; exact ByteArray.ext (Array.toList_inj.1 h)
  · intro h; rw [h]
def ob (l : List UInt8) : ByteArray := ⟨l.toArray⟩
theorem ob_bl (s : ByteArray) : ob s.data.toList = s := rfl
def sortL (l : List (List UInt8)) : List (List UInt8) := l.mergeSort fun x y => decide (x ≤ y)
def leafS (l : List ByteArray) : List ByteArray := (Lib.compact (sortL (l.map fun s => s.data.toList))).map ob
theorem JX (l : List (List UInt8)) : (sortL l).length = l.length := by simp [sortL]
theorem sortL_mem {l : List (List UInt8)} {x : List UInt8} : x ∈ sortL l ↔ x ∈ l := by simp [sortL, List.mem_mergeSort]
theorem sortL_pair (l : List (List UInt8)) : (sortL l).Pairwise (· ≤ ·) := by
  have h := List.pairwise_mergeSort (le := fun x y : List UInt8 => decide (x ≤ y)) (fun a b c h1 h2 => by simp only [decide_eq_true_eq] at *; exact List.le_trans h1 h2) (fun a b => by simp only [Bool.or_eq_true, decide_eq_true_eq]; exact List.le_total a b) l
  exact h.imp (fun h => by simpa using h)
theorem compactL_sub {l : List (List UInt8)} {x : List UInt8} (h : x ∈ Lib.compact l) : x ∈ l := by
  unfold Lib.compact Lib.compactUpTo at h
  obtain ⟨j, hj, rfl⟩ := List.mem_map.1 h
  have hj' : j < l.length := List.mem_range.1 (List.mem_filter.1 hj).1
  simp [hj']
theorem compactL_all {l : List (List UInt8)} {x : List UInt8} (h : x ∈ l) : x ∈ Lib.compact l := by
  obtain ⟨j, hj, hx⟩ := List.getElem_of_mem h
  have key : ∀ n j, j ≤ n → ∀ (hj : j < l.length), l[j] = x → ∃ i, ∃ hi : i < l.length, l[i] = x ∧ Lib.keeps l.toArray i = true := by
    intro n
    induction n with
    | zero => intro j h0 hj hx; obtain rfl : j = 0 := by omega
              exact ⟨0, hj, hx, Lib.keeps_lt_one _ 0 (by omega)⟩
    | succ n ih =>
      intro j h0 hj hx
      rcases Nat.eq_zero_or_pos j with h1 | h1
      · subst h1; exact ⟨0, hj, hx, Lib.keeps_lt_one _ 0 (by omega)⟩
      · by_cases h2 : l[j - 1] = x
        · exact ih (j - 1) (by omega) (by omega) h2
        · refine ⟨j, hj, hx, ?_⟩
          have e2 : l.toArray[j]! = l[j] := by simp [hj]
          have e3 : l.toArray[j - 1]! = l[j - 1] := by simp [show j - 1 < l.length by omega]
          unfold Lib.keeps
          rw [e2, e3, hx]
          simp [Ne.symm h2]
  obtain ⟨i, hi, hxi, hk⟩ := key j j (Nat.le_refl _) hj hx
  unfold Lib.compact Lib.compactUpTo
  refine List.mem_map.2 ⟨i, List.mem_filter.2 ⟨List.mem_range.2 hi, hk⟩, ?_⟩
  simp [hi, hxi]
theorem compactL_inc {l : List (List UInt8)} (h : l.Pairwise (· ≤ ·)) : (Lib.compact l).Pairwise (· < ·) := by
  unfold Lib.compact Lib.compactUpTo
  rw [List.pairwise_map, List.pairwise_filter]
  refine (List.pairwise_lt_range).imp_of_mem (S := fun i j => Lib.keeps l.toArray i = true → Lib.keeps l.toArray j = true → l.toArray[i]! < l.toArray[j]!) ?_
  intro i j hi hj hij _ hk
  have hj' : j < l.length := List.mem_range.1 hj
  have hk' : j = 0 ∨ l.toArray[j]! ≠ l.toArray[j - 1]! := by simpa [Lib.keeps] using hk
  rcases hk' with h0 | hne
  · omega
  have hp := List.pairwise_iff_getElem.1 h
  have e1 : l.toArray[i]! = l[i] := by simp [show i < l.length by omega]
  have e2 : l.toArray[j]! = l[j] := by simp [hj']
  have e3 : l.toArray[j - 1]! = l[j - 1] := by simp [show j - 1 < l.length by omega]
  have h2 := hp (j - 1) j (by omega) hj' (by omega)
  have h1 : l[i] ≤ l[j - 1] := by
    rcases Nat.lt_or_ge i (j - 1) with h3 | h3
    · exact hp i (j - 1) (by omega) (by omega) h3
    · have : i = j - 1 := by omega
      subst this; exact List.le_refl _
  rw [e1, e2]
  rw [e2, e3] at hne
  have h3 := List.le_trans h1 h2
  have h4 : ¬ l[j] ≤ l[i] := fun h5 => hne (List.le_antisymm (List.le_trans h5 h1) h2)
  exact List.not_le.1 h4
theorem leafS_mem {l : List ByteArray} {x : ByteArray} : x ∈ leafS l ↔ x ∈ l := by
  unfold leafS
  constructor
  · intro h
    obtain ⟨y, hy, rfl⟩ := List.mem_map.1 h
    obtain ⟨z, hz, rfl⟩ := List.mem_map.1 (sortL_mem.1 (compactL_sub hy))
    exact hz
  · intro h
    exact List.mem_map.2 ⟨x.data.toList, compactL_all (sortL_mem.2 (List.mem_map.2 ⟨x, h, rfl⟩)), ob_bl x⟩
theorem leafS_pair (l : List ByteArray) : (leafS l).Pairwise ltS := by
  unfold leafS
  rw [List.pairwise_map]
  exact (compactL_inc (sortL_pair _)).imp (fun h => (ltS_iff _ _).2 h)
theorem leafS_len (l : List ByteArray) : (leafS l).length ≤ l.length := by
  unfold leafS
  have h := Lib.compact_length_le (sortL (l.map fun s => s.data.toList))
  rw [JX] at h
  simpa using h
theorem inc_ext : ∀ {a b : List ByteArray}, a.Pairwise ltS → b.Pairwise ltS → (∀ x, x ∈ a ↔ x ∈ b) → a = b
  | [], [], _, _, _ => rfl
  | [], y :: b, _, _, h => absurd ((h y).2 (by simp)) (by simp)
  | x :: a, [], _, _, h => absurd ((h x).1 (by simp)) (by simp)
  | x :: a, y :: b, ha, hb, h => by
    obtain ⟨ha1, ha2⟩ := List.pairwise_cons.1 ha
    obtain ⟨hb1, hb2⟩ := List.pairwise_cons.1 hb
    have hxy : x = y := by
      rcases List.mem_cons.1 ((h x).1 (by simp)) with h1 | h1
      · exact h1
      · rcases List.mem_cons.1 ((h y).2 (by simp)) with h2 | h2
        · exact h2.symm
        · exact absurd (Xi (hb1 x h1) (ha1 y h2)) (Wi _)
    subst hxy
    congr 1
    refine inc_ext ha2 hb2 fun z => ⟨fun hz => ?_, fun hz => ?_⟩
    · rcases List.mem_cons.1 ((h z).1 (by simp [hz])) with h1 | h1
      · subst h1; exact absurd (ha1 z hz) (Wi _)
      · exact h1
    · rcases List.mem_cons.1 ((h z).2 (by simp [hz])) with h1 | h1
      · subst h1; exact absurd (hb1 z hz) (Wi _)
      · exact h1
structure Appr where
  user : Int
  path : ByteArray
  dig : Int
abbrev apprCells (a : Appr) : List Value := [.int .i64 a.user, .string a.path, .int .i64 a.dig]
theorem wide_appr : Wide apprCells 3 := fun _ => ⟨rfl, by simp [apprCells, Value.oneCell']⟩
def apprCode (a : Appr) : Int := if a.user < 0 ∨ 7 < a.user ∨ a.dig < -1 ∨ dMod ≤ a.dig then 3 else if pathOk a.path = true then 0 else 12
def apprF (l : List Appr) : Fault := if 40 < l.length then ⟨2, -1⟩ else scan (fun _ a => apprCode a) l
def findP (fs : List FileP) (p : ByteArray) : Option FileP := fs.find? fun f => decide (f.path = p)
def descP (fs : List FileP) (p : ByteArray) : Int := match findP fs p with | some f => strD f.lines | none => -1
def okPath (_ : Nat) (p : ByteArray) : Int := if pathOk p = true then 0 else 12
def approveF (fs : List FileP) (u : Int) (ps : List ByteArray) : Fault :=
  if treeF fs ≠ ⟨0, 0⟩ then secondF (treeF fs) (-2) else if u < 0 ∨ 7 < u then ⟨3, -3⟩ else if 24 < ps.length then ⟨2, -1⟩ else scan okPath ps
def approveL (fs : List FileP) (u : Int) (ps : List ByteArray) : List Appr := ps.map fun p => ⟨u, p, descP fs p⟩
def approveV (fs : List FileP) (u : Int) (ps : List ByteArray) : List Appr := if approveF fs u ps = ⟨0, 0⟩ then approveL fs u ps else []
def validF (l : List Appr) (fs : List FileP) : Fault := if apprF l ≠ ⟨0, 0⟩ then apprF l else secondF (treeF fs) (-2)
def validL (l : List Appr) (fs : List FileP) : List Bool := l.map fun a => decide (a.dig = descP fs a.path)
def validV (l : List Appr) (fs : List FileP) : List Bool := if validF l fs = ⟨0, 0⟩ then validL l fs else []
def diffAt (a b : List FileP) (p : ByteArray) : Bool := match findP a p, findP b p with | some f, some g => !decide (f.lines = g.lines) | _, _ => true
def chgL (a b : List FileP) : List ByteArray := leafS (((a ++ b).map FileP.path).filter (diffAt a b))
def coverB (own : List Int) (p : ByteArray) (fs : List FileP) (a : Appr) : Bool := decide (a.dig = descP fs a.path) && (decide (a.path = p) && hasI own a.user)
def doneB (rs : List Rule) (l : List Appr) (fs : List FileP) (p : ByteArray) : Bool := decide ((findU rs p).length = 0) || l.any (coverB (findU rs p) p fs)
def missF (rs : List Rule) (l : List Appr) (base tree : List FileP) : Fault :=
  if validF l tree ≠ ⟨0, 0⟩ then validF l tree else if treeF base ≠ ⟨0, 0⟩ then secondF (treeF base) (-3) else secondF (rulesF rs) (-4)
def missL (rs : List Rule) (l : List Appr) (base tree : List FileP) : List ByteArray := (chgL base tree).filter fun p => !doneB rs l tree p
def missV (rs : List Rule) (l : List Appr) (base tree : List FileP) : List ByteArray := if missF rs l base tree = ⟨0, 0⟩ then missL rs l base tree else []
theorem findP_some {fs : List FileP} {p : ByteArray} {f : FileP} (h : findP fs p = some f) : f ∈ fs ∧ f.path = p := ⟨List.mem_of_find?_eq_some h, by simpa using List.find?_some h⟩
theorem UM {fs : List FileP} {p : ByteArray} : findP fs p = none ↔ ∀ f ∈ fs, f.path ≠ p := by
  unfold findP
  rw [List.find?_eq_none]
  simp
theorem findP_at {fs : List FileP} (v : VTree fs) {k : Nat} (hk : k < fs.length) : findP fs fs[k].path = some fs[k] := by
  cases h : findP fs fs[k].path with
  | none => exact absurd rfl (UM.1 h _ (List.getElem_mem hk))
  | some g =>
    obtain ⟨hg, hp⟩ := findP_some h
    obtain ⟨j, hj, rfl⟩ := List.getElem_of_mem hg
    rcases Nat.lt_trichotomy j k with h1 | h1 | h1
    · have := v.mono j k h1 hk; rw [hp] at this; exact absurd this (Wi _)
    · subst h1; rfl
    · have := v.mono k j h1 hj; rw [hp] at this; exact absurd this (Wi _)
end Go.Cf
namespace Go.Cf
open Go.RowKit
theorem bs_left {fs : List FileC} {path : ByteArray} {h : Nat} (v : VTree (fpl fs)) (hh : h < fs.length) (hl : ltS fs[h].pl.path path) : ∀ m (hm : m < fs.length), m ≤ h → ltS fs[m].pl.path path := fun m hm hmh => by
  rcases Nat.lt_or_ge m h with h1 | h1
  · have h2 := v.mono m h h1 (by simpa using hh)
    rw [List.getElem_map, List.getElem_map] at h2
    exact Xi h2 hl
  · obtain rfl : m = h := by omega
    exact hl
theorem bs_right {fs : List FileC} {path : ByteArray} {h : Nat} (v : VTree (fpl fs)) (hh : h < fs.length) (hl : ¬ ltS fs[h].pl.path path) : ∀ m (hm : m < fs.length), h ≤ m → ¬ ltS fs[m].pl.path path := fun m hm hmh h9 => by
  rcases Nat.lt_or_ge h m with h1 | h1
  · have h2 := v.mono h m h1 (by simpa using hm)
    rw [List.getElem_map, List.getElem_map] at h2
    exact hl (Xi h2 h9)
  · obtain rfl : m = h := by omega
    exact hl h9
theorem bs_none {fs : List FileC} {path : ByteArray} {i : Nat} (v : VTree (fpl fs)) (hlo : ∀ m (h : m < fs.length), m < i → ltS fs[m].pl.path path) (hhi : ∀ m (h : m < fs.length), i ≤ m → ¬ ltS fs[m].pl.path path)
    (hne : ∀ h : i < fs.length, fs[i].pl.path ≠ path) {f : FileC} (hf : f ∈ fs) : f.pl.path ≠ path := by
  obtain ⟨m, hm, rfl⟩ := List.getElem_of_mem hf
  intro h9
  rcases Nat.lt_trichotomy m i with h1 | h1 | h1
  · have := hlo m hm h1; rw [h9] at this; exact Wi _ this
  · subst h1; exact hne hm h9
  · have h2 := v.mono i m h1 (by simpa using hm)
    rw [List.getElem_map, List.getElem_map, h9] at h2
    exact hhi i (by omega) (Nat.le_refl _) h2
theorem leS_t {a b p : ByteArray} (hp : p = b) (h : (Op.bytesLess a.toList b.toList || a.toList == b.toList) = true) : ¬ ltS p a := by
  subst hp
  intro h9
  unfold ltS at h9
  rw [Proofs.bytesLess_eq] at h
  rcases Bool.or_eq_true_iff.1 h with h1 | h1
  · exact List.lt_irrefl _ (List.lt_trans h9 (of_decide_eq_true h1))
  · rw [Yv h1] at h9; exact List.lt_irrefl _ h9
theorem leS_f {a b p : ByteArray} (hp : p = b) (h : (Op.bytesLess a.toList b.toList || a.toList == b.toList) = false) : ltS p a := by
  subst hp
  rw [Proofs.bytesLess_eq] at h
  obtain ⟨h1, h2⟩ := Bool.or_eq_false_iff.1 h
  have h3 := of_decide_eq_false h1
  unfold ltS
  have h4 := List.not_lt.1 h3
  rcases List.le_iff_lt_or_eq.1 h4 with h5 | h5
  · exact h5
  · rw [h5] at h2; simp at h2
theorem sec_zero {f : Fault} {i : Int} (h : secondF f i = ⟨0, 0⟩) : f.code = 0 := by
  unfold secondF at h
  split at h
  · exact congrArg Fault.code h
  · rename_i h1; rw [Classical.not_not.1 h1]
theorem sec_ne {f : Fault} {i : Int} (h : secondF f i ≠ ⟨0, 0⟩) : f ≠ ⟨0, 0⟩ := fun h1 => h (by rw [secondF, if_neg (fun h2 => h2 h1)])
theorem sec_code {l : List ByteArray} {i : Int} (h : secondF (linesF l) i ≠ ⟨0, 0⟩) : (linesF l).code ≠ 0 := fun h1 => sec_ne h (Ua h1)
theorem JW {fs : List FileC} {k : Nat} {n : Int} (hk : k < fs.length) (hz : ∀ j (h : j < fs.length), j < k → treeC (fpl fs) j fs[j].pl = 0) (hC : treeC (fpl fs) k fs[k].pl = n) (hn : n ≠ 0) : scan (fun i f => treeC (fpl fs) i f) (fpl fs) = ⟨n, k⟩ := by
  have h1 := Uf (f := fun i f => treeC (fpl fs) i f) (l := fpl fs) (k := k) (by simpa using hk) (fun j h hj => by rw [List.getElem_map]; exact hz j (by simpa using h) hj) (by rw [List.getElem_map, hC]; exact hn)
  rw [h1, List.getElem_map, hC]
end Go.Cf
namespace Go.Cf
open Go.RowKit
theorem desc_none {fs : List FileC} {path : ByteArray} (h : ∀ f ∈ fs, f.pl.path ≠ path) : descP (fpl fs) path = -1 := by
  have h1 : findP (fpl fs) path = none := UM.2 fun f hf => by
    obtain ⟨g, hg, rfl⟩ := List.mem_map.1 hf
    exact h g hg
  rw [descP, h1]
theorem desc_at {fs : List FileC} {path : ByteArray} {k : Nat} (v : VTree (fpl fs)) (hk : k < fs.length) (hp : fs[k].pl.path = path) : descP (fpl fs) path = strD fs[k].pl.lines := by
  have h1 := findP_at v (k := k) (by simpa using hk)
  rw [List.getElem_map, hp] at h1
  rw [descP, h1]
theorem sec_ok {f : Fault} {i : Int} (h : secondF f i = ⟨0, 0⟩) (hi : i ≠ 0) : f = ⟨0, 0⟩ := by
  unfold secondF at h
  split at h
  · exact absurd (congrArg Fault.index h) hi
  · rename_i h1; exact Classical.not_not.1 h1
theorem QK {fs : List FileP} {u : Int} {ps : List ByteArray} {k : Nat} (hk : k < ps.length) : approveL fs u (ps.take (k + 1)) = approveL fs u (ps.take k) ++ [⟨u, ps[k], descP fs ps[k]⟩] := by
  unfold approveL
  rw [List.take_succ_eq_append_getElem hk, List.map_append]; rfl
theorem validL_succ {fs : List FileP} {l : List Appr} {k : Nat} (hk : k < l.length) : validL (l.take (k + 1)) fs = validL (l.take k) fs ++ [decide (l[k].dig = descP fs l[k].path)] := by
  unfold validL
  rw [List.take_succ_eq_append_getElem hk, List.map_append]; rfl
theorem apprF_len {l : List Appr} (h : apprF l = ⟨0, 0⟩) : l.length ≤ 40 := by
  unfold apprF at h
  split at h
  · cases h
  · omega
theorem appr_bad {a : Appr} (h : (decide (0 ≤ a.user) && decide (a.user ≤ 7)) = false ∨ a.dig < -1 ∨ dMod ≤ a.dig) : a.user < 0 ∨ 7 < a.user ∨ a.dig < -1 ∨ dMod ≤ a.dig := by
  rcases h with h | h | h
  · rw [Bool.and_eq_false_iff] at h
    rcases h with h | h
    · left; have := of_decide_eq_false h; omega
    · right; left; have := of_decide_eq_false h; omega
  · exact .inr (.inr (.inl h))
  · exact .inr (.inr (.inr h))
theorem appr_good {a : Appr} (h : (decide (0 ≤ a.user) && decide (a.user ≤ 7)) = true) (h1 : ¬ a.dig < -1) (h2 : ¬ dMod ≤ a.dig) : ¬ (a.user < 0 ∨ 7 < a.user ∨ a.dig < -1 ∨ dMod ≤ a.dig) := by
  rw [Bool.and_eq_true] at h
  have h3 := of_decide_eq_true h.1
  have h4 := of_decide_eq_true h.2
  rintro (h | h | h | h)
  · omega
  · omega
  · exact h1 h
  · exact h2 h
end Go.Cf
namespace Go.Cf
open Go.RowKit
theorem QQ {fs : List FileP} (h : (treeF fs).code = 0) : treeF fs = ⟨0, 0⟩ := by
  unfold treeF at h ⊢
  split
  · rename_i h1; rw [if_pos h1] at h; cases h
  · rename_i h1; rw [if_neg h1] at h; exact Ux h
theorem apprF_code {l : List Appr} (h : (apprF l).code = 0) : apprF l = ⟨0, 0⟩ := by
  unfold apprF at h ⊢
  split
  · rename_i h1; rw [if_pos h1] at h; cases h
  · rename_i h1; rw [if_neg h1] at h; exact Ux h
theorem sec_eq {f : Fault} (i : Int) (hf : f.code = 0 → f = ⟨0, 0⟩) (h : (secondF f i).code = 0) : f = ⟨0, 0⟩ ∧ secondF f i = ⟨0, 0⟩ := by
  unfold secondF at h ⊢
  by_cases h1 : f ≠ ⟨0, 0⟩
  · rw [if_pos h1] at h; exact absurd (hf h) h1
  · rw [if_neg h1]; exact ⟨Classical.not_not.1 h1, rfl⟩
theorem Yb {fs : List FileP} {u : Int} {ps : List ByteArray} (h1 : treeF fs = ⟨0, 0⟩) (h2 : ¬ (u < 0 ∨ 7 < u)) (h3 : ps.length ≤ 24) (h4 : ∀ j (h : j < ps.length), pathOk ps[j] = true) : approveF fs u ps = ⟨0, 0⟩ := by
  rw [approveF, if_neg (fun h9 => h9 h1), if_neg h2, if_neg (by omega)]
  exact Qy fun j hj => if_pos (h4 j hj)
theorem Zn {l : List Appr} {fs : List FileP} (h : (validF l fs).code = 0) : validF l fs = ⟨0, 0⟩ ∧ apprF l = ⟨0, 0⟩ ∧ treeF fs = ⟨0, 0⟩ := by
  unfold validF at h ⊢
  by_cases h1 : apprF l ≠ ⟨0, 0⟩
  · rw [if_pos h1] at h; exact absurd (apprF_code h) h1
  rw [if_neg h1] at h ⊢
  have h2 := sec_eq _ QQ h
  exact ⟨h2.2, Classical.not_not.1 h1, h2.1⟩
theorem validF_ok {l : List Appr} {fs : List FileP} (h1 : apprF l = ⟨0, 0⟩) (h2 : treeF fs = ⟨0, 0⟩) : validF l fs = ⟨0, 0⟩ := by
  rw [validF, if_neg (fun h9 => h9 h1), h2]; rfl
theorem missF_code {rs : List Rule} {l : List Appr} {base tree : List FileP} (h : (missF rs l base tree).code = 0) :
    missF rs l base tree = ⟨0, 0⟩ ∧ apprF l = ⟨0, 0⟩ ∧ treeF tree = ⟨0, 0⟩ ∧ treeF base = ⟨0, 0⟩ ∧ rulesF rs = ⟨0, 0⟩ := by
  unfold missF at h ⊢
  by_cases h1 : validF l tree ≠ ⟨0, 0⟩
  · rw [if_pos h1] at h; exact absurd (Zn h).1 h1
  rw [if_neg h1] at h ⊢
  have h1' := Classical.not_not.1 h1
  have h3 := Zn (l := l) (fs := tree) (by rw [h1'])
  by_cases h2 : treeF base ≠ ⟨0, 0⟩
  · rw [if_pos h2] at h; exact absurd (sec_eq _ QQ h).1 h2
  rw [if_neg h2] at h ⊢
  have h4 := sec_eq _ rulesF_code h
  exact ⟨h4.2, h3.2.1, h3.2.2, Classical.not_not.1 h2, h4.1⟩
theorem missF_ok {rs : List Rule} {l : List Appr} {base tree : List FileP} (h1 : apprF l = ⟨0, 0⟩) (h2 : treeF tree = ⟨0, 0⟩) (h3 : treeF base = ⟨0, 0⟩) (h4 : rulesF rs = ⟨0, 0⟩) : missF rs l base tree = ⟨0, 0⟩ := by
  rw [missF, if_neg (fun h9 => h9 (validF_ok h1 h2)), if_neg (fun h9 => h9 h3), h4]; rfl
theorem chg_path {a b : List FileP} {p : ByteArray} (h : p ∈ chgL a b) : ∃ f ∈ a ++ b, f.path = p := by
  have h1 := leafS_mem.1 h
  have h2 := (List.mem_filter.1 h1).1
  exact List.mem_map.1 h2
theorem chg_ok {a b : List FileP} (ha : treeF a = ⟨0, 0⟩) (hb : treeF b = ⟨0, 0⟩) {p : ByteArray} (h : p ∈ chgL a b) : pathOk p = true := by
  obtain ⟨f, hf, rfl⟩ := chg_path h
  rcases List.mem_append.1 hf with h1 | h1
  · exact (Qq ha).ok f h1
  · exact (Qq hb).ok f h1
theorem chg_len {a b : List FileP} : (chgL a b).length ≤ a.length + b.length := by
  refine Nat.le_trans (leafS_len _) (Nat.le_trans (List.length_filter_le _ _) ?_)
  simp
theorem done_more {rs : List Rule} {a b : List Appr} {fs : List FileP} {p : ByteArray} (h : doneB rs a fs p = true) : doneB rs (a ++ b) fs p = true := by
  unfold doneB at h ⊢
  rw [List.any_append]
  rcases Bool.or_eq_true_iff.1 h with h1 | h1
  · rw [h1]; rfl
  · rw [h1]; simp
theorem miss_more (rs : List Rule) (a b : List Appr) (base tree : List FileP) : (missL rs (a ++ b) base tree).Sublist (missL rs a base tree) := by
  have h1 : missL rs (a ++ b) base tree = (missL rs a base tree).filter fun p => !doneB rs (a ++ b) tree p := by
    unfold missL
    rw [List.filter_filter]
    refine List.filter_congr fun p _ => ?_
    cases h : doneB rs a tree p with
    | true => rw [done_more h]; rfl
    | false => simp
  rw [h1]
  exact List.filter_sublist
theorem sub_hit {α : Type} {x y : List α} {i k : Nat} (hi : i < x.length) (hk : k < y.length) (e : x[i] = y[k]) (h : (y.drop k).Sublist (x.drop i)) : (y.drop (k + 1)).Sublist (x.drop (i + 1)) := by
  rw [List.drop_eq_getElem_cons hi, List.drop_eq_getElem_cons hk, e] at h
  exact List.cons_sublist_cons.1 h
theorem sub_tail {α : Type} : ∀ {a b : α} {x y : List α}, a ≠ b → (b :: y).Sublist (a :: x) → (b :: y).Sublist x := by
  intro a b x y e h
  cases h with
  | cons _ h => exact h
  | cons_cons _ h => exact absurd rfl e
theorem sub_skip {α : Type} {x y : List α} {i k : Nat} (hi : i < x.length) (hk : k < y.length) (e : x[i] ≠ y[k]) (h : (y.drop k).Sublist (x.drop i)) : (y.drop k).Sublist (x.drop (i + 1)) := by
  rw [List.drop_eq_getElem_cons hi, List.drop_eq_getElem_cons hk] at h
  rw [List.drop_eq_getElem_cons hk]
  exact sub_tail e h
theorem sub_end {α : Type} {x y : List α} {i k : Nat} (hi : ¬ i < x.length) (h : (y.drop k).Sublist (x.drop i)) : y.length ≤ k := by
  rw [List.drop_of_length_le (l := x) (by omega)] at h
  have h1 := h.length_le
  simp at h1
  omega
def lastU (us : List Int) : Int := us[us.length - 1]?.getD 0
theorem lastU_get {us : List Int} (h : us.length - 1 < us.length) : lastU us = us[us.length - 1] := by rw [lastU, List.getElem?_eq_getElem h]; rfl
theorem lastU_mem {us : List Int} (h : us ≠ []) : lastU us ∈ us := by
  have h1 : us.length - 1 < us.length := by have := List.length_pos_iff.2 h; omega
  rw [lastU_get h1]; exact List.getElem_mem h1
def ownA (rs : List Rule) (tree : List FileP) (p : ByteArray) : Appr := ⟨lastU (findU rs p), p, descP tree p⟩
def allA (rs : List Rule) (tree : List FileP) (m : List ByteArray) : List Appr := m.map (ownA rs tree)
theorem miss_nil {rs : List Rule} {base tree : List FileP} {p : ByteArray} : p ∈ missL rs [] base tree ↔ p ∈ chgL base tree ∧ findU rs p ≠ [] := by
  unfold missL doneB
  rw [List.mem_filter]
  simp [List.length_eq_zero_iff]
theorem suff {rs : List Rule} {base tree : List FileP} : missL rs (allA rs tree (missL rs [] base tree)) base tree = [] := by
  have h0 := @miss_nil rs base tree
  generalize missL rs [] base tree = m at h0
  unfold missL
  refine List.filter_eq_nil_iff.2 fun p hp => ?_
  suffices h : doneB rs (allA rs tree m) tree p = true by rw [h]; simp
  unfold doneB
  by_cases h1 : findU rs p = []
  · rw [h1]; rfl
  · refine Bool.or_eq_true_iff.2 (.inr (List.any_eq_true.2 ⟨ownA rs tree p, List.mem_map.2 ⟨p, h0.2 ⟨hp, h1⟩, rfl⟩, ?_⟩))
    unfold coverB ownA
    simp [hasI_mem.2 (lastU_mem h1)]
theorem find_user {rs : List Rule} (h : rulesF rs = ⟨0, 0⟩) {p : ByteArray} {u : Int} (hu : u ∈ findU rs p) : 0 ≤ u ∧ u ≤ 7 := by
  rcases findU_mem rs p with h1 | ⟨r, hr, h1⟩
  · rw [h1] at hu; cases hu
  · rw [h1] at hu
    have h2 := (uCode_zero (Ye (Xs h r hr)).2.2).1 u hu
    exact ⟨h2.1, h2.2.1⟩
structure Suff (rs : List Rule) (base tree : List FileP) (m : List ByteArray) : Prop where
  ok : missF rs [] base tree = ⟨0, 0⟩
  m : m = missL rs [] base tree
theorem Suff.at_ {rs : List Rule} {base tree : List FileP} {m : List ByteArray} (h : Suff rs base tree m) {p : ByteArray} (hp : p ∈ m) :
    ofF rs p = ⟨0, 0⟩ ∧ ofV rs p = findU rs p ∧ findU rs p ≠ [] ∧ approveF tree (lastU (findU rs p)) [p] = ⟨0, 0⟩ ∧ approveV tree (lastU (findU rs p)) [p] = [ownA rs tree p] := by
  obtain ⟨-, -, ht, hb, hr⟩ := missF_code (rs := rs) (l := []) (base := base) (tree := tree) (by rw [h.ok])
  rw [h.m] at hp
  obtain ⟨h1, h2⟩ := miss_nil.1 hp
  have h3 := chg_ok hb ht h1
  have h4 := of_ok hr h3
  have h5 := find_user hr (lastU_mem h2)
  have h6 : approveF tree (lastU (findU rs p)) [p] = ⟨0, 0⟩ := Yb ht (by omega) (by simp) (fun j hj => by
    have : j = 0 := by simpa using hj
    subst this; exact h3)
  exact ⟨h4.1, h4.2, h2, h6, by rw [approveV, if_pos h6]; rfl⟩
theorem dig_ok (tree : List FileP) (p : ByteArray) : -1 ≤ descP tree p ∧ descP tree p < dMod := by
  unfold descP
  split
  · rename_i f _; have := strD_bd f.lines; omega
  · exact ⟨Int.le_refl _, by decide⟩
theorem Suff.done {rs : List Rule} {base tree : List FileP} {m : List ByteArray} (h : Suff rs base tree m) (hl : (allA rs tree m).length ≤ 40) :
    missF rs (allA rs tree m) base tree = ⟨0, 0⟩ ∧ missV rs (allA rs tree m) base tree = [] := by
  obtain ⟨-, -, ht, hb, hr⟩ := missF_code (rs := rs) (l := []) (base := base) (tree := tree) (by rw [h.ok])
  have h1 : apprF (allA rs tree m) = ⟨0, 0⟩ := by
    rw [apprF, if_neg (by omega)]
    refine Qy fun j hj => ?_
    show apprCode _ = 0
    obtain ⟨p, hp, he⟩ := List.mem_map.1 (List.getElem_mem hj)
    rw [← he]
    rw [h.m] at hp
    obtain ⟨h2, h3⟩ := miss_nil.1 hp
    have h4 := find_user hr (lastU_mem h3)
    have h5 := dig_ok tree p
    rw [apprCode, if_neg (by show ¬ (lastU (findU rs p) < 0 ∨ 7 < lastU (findU rs p) ∨ descP tree p < -1 ∨ dMod ≤ descP tree p); omega), if_pos (show pathOk (ownA rs tree p).path = true from chg_ok hb ht h2)]
  have h2 := missF_ok h1 ht hb hr
  refine ⟨h2, ?_⟩
  rw [missV, if_pos h2, h.m]
  exact suff
def AppChk (fs : List FileP) (u : Int) (ps : List ByteArray) (k : Nat) (q : Fault) : Prop :=
  (q = ⟨0, 0⟩ ∧ treeF fs = ⟨0, 0⟩ ∧ ¬ (u < 0 ∨ 7 < u) ∧ ps.length ≤ 24 ∧ ∀ j (h : j < ps.length), j < k → pathOk ps[j] = true) ∨ (q.code ≠ 0 ∧ approveF fs u ps = q)
section
variable {fs : List FileP} {u : Int} {ps : List ByteArray} {k : Nat} {q : Fault}
theorem AppChk.good (h : AppChk fs u ps k q) (hq : q.code = 0) : q = ⟨0, 0⟩ ∧ treeF fs = ⟨0, 0⟩ ∧ ¬ (u < 0 ∨ 7 < u) ∧ ps.length ≤ 24 ∧ ∀ j (h : j < ps.length), j < k → pathOk ps[j] = true := by
  rcases h with h | h
  · exact h
  · exact absurd hq h.1
theorem AppChk.ok (h : AppChk fs u ps k q) (hq : q.code = 0) (hk : k < ps.length) (hp : pathOk ps[k] = true) : AppChk fs u ps (k + 1) q := by
  obtain ⟨h1, h2, h3, h4, h5⟩ := h.good hq
  refine .inl ⟨h1, h2, h3, h4, fun j hj hjk => ?_⟩
  rcases Nat.lt_succ_iff_lt_or_eq.1 hjk with h9 | rfl
  · exact h5 j hj h9
  · exact hp
theorem AppChk.bad (h : AppChk fs u ps k q) (hq : q.code = 0) (hk : k < ps.length) (hp : pathOk ps[k] = false) : AppChk fs u ps (k + 1) ⟨12, k⟩ := by
  obtain ⟨h1, h2, h3, h4, h5⟩ := h.good hq
  refine .inr ⟨show ¬ (12 : Int) = 0 by decide, ?_⟩
  rw [approveF, if_neg (fun h9 => h9 h2), if_neg h3, if_neg (by omega)]
  have h6 : okPath k ps[k] = 12 := if_neg (by rw [hp]; decide)
  rw [Uf hk (fun j hj hjk => if_pos (h5 j hj hjk)) (by rw [h6]; decide), h6]
theorem AppChk.done (h : AppChk fs u ps k q) (hst : ¬ (k < ps.length ∧ q.code = 0)) : approveF fs u ps = q := by
  by_cases hq : q.code = 0
  · obtain ⟨h1, h2, h3, h4, h5⟩ := h.good hq
    rw [h1]
    exact Yb h2 h3 h4 fun j hj => h5 j hj (by omega)
  · rcases h with h | h
    · exact absurd (congrArg Fault.code h.1) hq
    · exact h.2
end
abbrev xA : ByteArray := ⟨#[97]⟩
end Go.Cf
namespace Go.Cf
open Go.RowKit
theorem y_indexByte {P : Program} {w0 : World} {T : List Reg} {ρ : Env} {dst : Option Nat} {x y : Operand} {ty : TypeId} {pos : String} {af : Array Edge} {gd : Option (Nat × Bool)} {ts : Array TypeId} {f : FuncId} {fn : Func}
    (hf : P.funcs[f]? = some fn) (hname : (fn.name == "runtime.NumGoroutine") = false) (hb : fn.body.isNone = true) (hn : Extern.findNext fn = none) (he : Extern.find fn = some Extern.BytealgIndexByte.indexByte) {s : ByteArray} {c : Int}
    (hx : ev ρ x = .string s) (hy : ev ρ y = .int .u8 c) :
    Yield P w0 T ρ ⟨dst, .call { callee := .value (.func f), args := #[x, y], argTypes := ts }, ty, pos, af, gd⟩ (.int .i64 (firstIdx s c.toNat.toUInt8)) := fun w _ => by
  have h := run_callFunc_extern hf hname hb hn he #[.string s, .int .u8 c] w
  rw [run_indexByte_string] at h
  simp only [Result.andThen] at h
  have hef : ev ρ (.func f) = .func (.func f) #[] #[] := rfl
  simp [execOp, resolve, invoke, hx, hy, hef, Deferred.ofValue]
  simpa using h
theorem y_field {P : Program} {w0 : World} {T : List Reg} {ρ : Env} {dst : Option Nat} {x : Operand} {ty t : TypeId} {pos : String} {af : Array Edge} {gd : Option (Nat × Bool)} {i : Nat} {cs : Array Value} {v : Value}
    (hx : ev ρ x = .agg cs) (hf : ∀ w, (Instr.field t (.agg cs) i).run P w = .ok v w) : Yield P w0 T ρ ⟨dst, .field t x i, ty, pos, af, gd⟩ v := fun w _ => by
  simp [execOp, hx, hf]
end Go.Cf
namespace Go.Cf
open Go.RowKit
def chain : Int → List Hunk → Prop
  | _, [] => True
  | e, h :: t => e ≤ h.at_ ∧ chain h.end_ t
theorem chain_drop {hs : List Hunk} (v : PV hs) : ∀ (n k : Nat) (e : Int), hs.length = k + n → (∀ h : k < hs.length, e ≤ hs[k].at_) → chain e (hs.drop k)
  | 0, k, e, hn, _ => by rw [List.drop_eq_nil_of_le (by omega)]; trivial
  | n + 1, k, e, hn, he => by
    have hk : k < hs.length := by omega
    rw [List.drop_eq_getElem_cons hk]
    refine ⟨he hk, chain_drop v n (k + 1) hs[k].end_ (by omega) fun h => ?_⟩
    have := (v.at_ (k + 1) h).past
    rw [PV.prev hk] at this
    omega
theorem PV.chain {hs : List Hunk} (v : PV hs) : Go.Cf.chain 0 hs := by
  have := chain_drop v hs.length 0 0 (by omega) (fun h => (v.at_ 0 h).lo)
  rwa [List.drop_zero] at this
end Go.Cf
namespace Go.Cf
open Go.RowKit
theorem PV.before {hs : List Hunk} (v : PV hs) : ∀ k (h : k < hs.length) j (hj : j < hs.length), j < k → hs[j].end_ < hs[k].at_
  | 0, _, _, _, h => absurd h (by omega)
  | k + 1, h, j, hj, hjk => by
    have hk : k < hs.length := by omega
    have h1 := (v.at_ (k + 1) h).past
    rw [PV.prev hk] at h1
    rcases Nat.lt_or_ge j k with h2 | h2
    · have := v.before k hk j hj h2
      have e : hs[k].at_ ≤ hs[k].end_ := by unfold Hunk.end_; omega
      omega
    · obtain rfl : j = k := by omega
      exact h1
end Go.Cf
namespace Go.Cf
open Go.RowKit
theorem SB.none (b : Nat) : SB Option.none 0 0 b := ⟨Nat.le_refl _, by unfold maxLen; omega, fun _ => rfl, by simp⟩
theorem PatR.nil {w : World} {lo : Nat} : PatR w lo none 0 [] := ⟨Rdl.nil, by simp, SB.none _⟩
end Go.Cf
namespace Go.Cf
open Go.RowKit
def rawFrom : Nat → List Hunk → List ByteArray → List ByteArray
  | low, [], t => t.drop low
  | low, h :: r, t => (t.drop low).take (h.at_.toNat - low) ++ (h.new ++ rawFrom (h.at_.toNat + h.old.length) r t)
def occ (text part : List ByteArray) (a : Int) : Bool := decide (0 ≤ a) && decide (a ≤ text.length) && decide ((part.length : Int) ≤ text.length - a) && decide ((text.drop a.toNat).take part.length = part)
def applyF (hs : List Hunk) (text : List ByteArray) : Fault :=
  if patchF hs ≠ ⟨0, 0⟩ then patchF hs else if secondF (linesF text) (-2) ≠ ⟨0, 0⟩ then secondF (linesF text) (-2) else
    if scan (fun _ h => if occ text h.old h.at_ = true then 0 else 19) hs ≠ ⟨0, 0⟩ then scan (fun _ h => if occ text h.old h.at_ = true then 0 else 19) hs else
      if 120 < (rawFrom 0 hs text).length then ⟨10, -1⟩ else ⟨0, 0⟩
def applyR (hs : List Hunk) (text : List ByteArray) : List ByteArray := if applyF hs text = ⟨0, 0⟩ then rawFrom 0 hs text else []
theorem rawFrom_drop {hs : List Hunk} {k : Nat} (h : k < hs.length) (low : Nat) (t : List ByteArray) : rawFrom low (hs.drop k) t =
    (t.drop low).take (hs[k].at_.toNat - low) ++ (hs[k].new ++ rawFrom (hs[k].at_.toNat + hs[k].old.length) (hs.drop (k + 1)) t) := by
  rw [List.drop_eq_getElem_cons h, rawFrom]
theorem occ_end {text part : List ByteArray} {a : Int} (h : occ text part a = true) : 0 ≤ a ∧ a + part.length ≤ text.length := by
  simp only [occ, Bool.and_eq_true, decide_eq_true_eq] at h; omega
theorem Yu {l : List ByteArray} {i : Int} (h : secondF (linesF l) i = ⟨0, 0⟩) : linesF l = ⟨0, 0⟩ := by
  apply Classical.byContradiction
  intro h1
  rw [secondF, if_pos h1] at h
  exact h1 (Ua (congrArg Fault.code h))
structure AppOk (hs : List Hunk) (text : List ByteArray) : Prop where
  pv : PV hs
  lines : linesF text = ⟨0, 0⟩
  occ_ : ∀ k (h : k < hs.length), occ text hs[k].old hs[k].at_ = true
  len : (rawFrom 0 hs text).length ≤ 120
theorem Xd {hs : List Hunk} {text : List ByteArray} (h : (applyF hs text).code = 0) : applyF hs text = ⟨0, 0⟩ ∧ AppOk hs text ∧ applyR hs text = rawFrom 0 hs text := by
  have key : applyF hs text = ⟨0, 0⟩ ∧ AppOk hs text := by
    unfold applyF at h ⊢
    by_cases h1 : patchF hs ≠ ⟨0, 0⟩
    · rw [if_pos h1] at h; exact absurd (Xu h) h1
    · rw [if_neg h1] at h ⊢
      by_cases h2 : secondF (linesF text) (-2) ≠ ⟨0, 0⟩
      · rw [if_pos h2] at h
        exfalso; apply h2
        unfold secondF at h ⊢
        by_cases h3 : linesF text ≠ ⟨0, 0⟩
        · rw [if_pos h3] at h; exact absurd (Ua h) h3
        · rw [if_neg h3]
      · rw [if_neg h2] at h ⊢
        by_cases h3 : scan (fun _ h => if occ text h.old h.at_ = true then 0 else 19) hs ≠ ⟨0, 0⟩
        · rw [if_pos h3] at h; exact absurd (Ux h) h3
        · rw [if_neg h3] at h ⊢
          by_cases h4 : 120 < (rawFrom 0 hs text).length
          · rw [if_pos h4] at h; cases h
          · rw [if_neg h4]
            refine ⟨rfl, patchF_ok.1 (Decidable.not_not.1 h1), Yu (Decidable.not_not.1 h2), fun k hk => ?_, by omega⟩
            have := Wk.1 (Decidable.not_not.1 h3) k hk
            by_cases h5 : occ text hs[k].old hs[k].at_ = true
            · exact h5
            · rw [if_neg h5] at this; cases this
  exact ⟨key.1, key.2, by rw [applyR, if_pos key.1]⟩
theorem AppOk.ends {hs : List Hunk} {text : List ByteArray} (a : AppOk hs text) : ∀ h ∈ hs, h.end_ ≤ text.length := fun h hh => by
  obtain ⟨k, hk, rfl⟩ := List.getElem_of_mem hh
  exact (occ_end (a.occ_ k hk)).2
theorem raw_at (text : List ByteArray) : ∀ (hs : List Hunk) (i low : Nat) (g : Int), chain low hs → (∀ h ∈ hs, h.end_ ≤ text.length) → (∀ h ∈ hs, 0 ≤ h.at_) → low ≤ i → i < text.length → (place hs i g).2 = true →
    ∃ j : Nat, (place hs i g).1 = low + g + j ∧ (rawFrom low hs text)[j]? = text[i]?
  | [], i, low, g, _, _, _, hl, hi, _ => ⟨i - low, by simp only [place]; omega, by rw [rawFrom, List.getElem?_drop, show low + (i - low) = i by omega]⟩
  | h :: r, i, low, g, hc, he, h0, hl, hi, hk => by
    have hc1 := hc.1
    have ha := h0 h (by simp)
    have hend : h.end_ ≤ text.length := he h (by simp)
    have e1 : h.end_ = h.at_ + h.old.length := rfl
    have e2 : h.growth = h.new.length - h.old.length := rfl
    have hlen : ((text.drop low).take (h.at_.toNat - low)).length = h.at_.toNat - low := by simp; omega
    rw [place] at hk ⊢
    by_cases h3 : (i : Int) < h.at_
    · rw [if_pos h3]
      refine ⟨i - low, by simp only; omega, ?_⟩
      rw [rawFrom, List.getElem?_append_left (by omega), List.getElem?_take, if_pos (by omega), List.getElem?_drop, show low + (i - low) = i by omega]
    · rw [if_neg h3] at hk ⊢
      by_cases h4 : (i : Int) < h.end_
      · rw [if_pos h4] at hk; cases hk
      · rw [if_neg h4] at hk ⊢
        have ce : (((h.at_.toNat + h.old.length : Nat)) : Int) = h.end_ := by omega
        obtain ⟨j, hj, hr⟩ := raw_at text r i (h.at_.toNat + h.old.length) (g + h.growth) (by rw [ce]; exact hc.2) (fun x hx => he x (by simp [hx])) (fun x hx => h0 x (by simp [hx])) (by omega) hi hk
        refine ⟨(h.at_.toNat - low) + h.new.length + j, by rw [hj]; omega, ?_⟩
        rw [rawFrom, List.getElem?_append_right (by omega), hlen, List.getElem?_append_right (by omega), ← hr]
        congr 1; omega
theorem kept_text {hs : List Hunk} {text : List ByteArray} (a : AppOk hs text) {i : Nat} (hi : i < text.length) (hk : (place hs i 0).2 = true) : ∃ j : Nat, (place hs i 0).1 = j ∧ (rawFrom 0 hs text)[j]? = some text[i] := by
  obtain ⟨j, h1, h2⟩ := raw_at text hs i 0 0 a.pv.chain a.ends (fun h hh => (a.pv.each h hh).lo) (Nat.zero_le _) hi hk
  exact ⟨j, by rw [h1]; omega, by rw [h2, List.getElem?_eq_getElem hi]⟩
end Go.Cf
namespace Go.Cf
open Go.RowKit
structure Thr where
  user : Int
  line : Int
  comments : Int
  outdated : Bool
  resolved : Bool
  deriving DecidableEq
abbrev thrCells (t : Thr) : List Value := [.int .i64 t.user, .int .i64 t.line, .int .i64 t.comments, .bool t.outdated, .bool t.resolved]
theorem wide_thr : Wide thrCells 5 := fun _ => ⟨rfl, by simp [thrCells, Value.oneCell']⟩
structure Ev where
  kind : Int
  user : Int
  thread : Int
  line : Int
  text : ByteArray
  patch : List Hunk
structure EvC where
  kind : Int
  user : Int
  thread : Int
  line : Int
  text : ByteArray
  A : Option Addr
  c : Nat
  hs : List HunkC
abbrev EvC.pl (e : EvC) : Ev := ⟨e.kind, e.user, e.thread, e.line, e.text, pls e.hs⟩
abbrev evCells (e : EvC) : List Value := [.int .i64 e.kind, .int .i64 e.user, .int .i64 e.thread, .int .i64 e.line, .string e.text, .slice e.A e.hs.length e.c]
abbrev evV (e : EvC) : Value := .agg #[.int .i64 e.kind, .int .i64 e.user, .int .i64 e.thread, .int .i64 e.line, .string e.text, .slice e.A e.hs.length e.c]
structure EvR (w : World) (lo : Nat) (e : EvC) : Prop where
  pat : PatR w lo e.A e.c e.hs
theorem EvR.lasts {lo : Nat} {e : EvC} : Lasts lo (fun w => EvR w lo e) := fun w w' hR hk => ⟨PatR.lasts w w' hR.pat hk⟩
theorem EvR.mono {w : World} {lo lo' : Nat} {e : EvC} (hR : EvR w lo e) (hl : lo' ≤ lo) : EvR w lo' e := ⟨hR.pat.mono hl⟩
structure EvsR (w : World) (lo : Nat) (A : Option Addr) (es : List EvC) : Prop where
  rd : Rdl w lo 6 evCells A es
  each : ∀ e ∈ es, EvR w lo e
theorem EvsR.lasts {lo : Nat} {A : Option Addr} {es : List EvC} : Lasts lo (fun w => EvsR w lo A es) := fun w w' hR hk => ⟨hR.rd.keep hk, fun e he => EvR.lasts w w' (hR.each e he) hk⟩
abbrev evs (es : List EvC) : List Ev := es.map EvC.pl
def isEmptyS (s : ByteArray) : Bool := s.toList == (ByteArray.mk #[]).toList
def badE (e : Ev) : Bool := decide ((e.thread ≠ 0 ∧ e.kind ≠ 2 ∧ e.kind ≠ 3) ∨ (e.line ≠ 0 ∧ e.kind ≠ 1) ∨ (isEmptyS e.text = false ∧ e.kind ≠ 1 ∧ e.kind ≠ 2) ∨ (0 < e.patch.length ∧ e.kind ≠ 4))
def formC (e : Ev) : Int :=
  if e.kind < 1 ∨ 4 < e.kind then 4 else
  if badE e = true then 5 else
  if e.user < 0 ∨ 7 < e.user then 3 else
  if e.kind = 1 ∨ e.kind = 2 then (if isEmptyS e.text = true then 5 else lineCode e.text) else 0
def followT (p : List Hunk) (t : Thr) : Thr :=
  if t.outdated = true then t else if (place p t.line 0).2 = true then { t with line := (place p t.line 0).1, outdated := false } else { t with outdated := true }
abbrev St := List Thr × List ByteArray
def patchT (s : St) (p : List Hunk) : Int × St := if applyF p s.2 ≠ ⟨0, 0⟩ then ((applyF p s.2).code, s) else (0, (s.1.map (followT p), rawFrom 0 p s.2))
def stepE (s : St) (e : Ev) : Int × St :=
  if formC e ≠ 0 then (formC e, s) else
  if e.kind = 1 then (if e.line < 0 ∨ (s.2.length : Int) ≤ e.line then (3, s) else if 12 ≤ s.1.length then (14, s) else (0, (s.1 ++ [⟨e.user, e.line, 1, false, false⟩], s.2))) else
  if e.kind = 4 then patchT s e.patch else
  match s.1[e.thread.toNat]? with
  | none => (6, s)
  | some t =>
    if e.thread < 0 then (6, s) else
    if e.kind = 2 then (0, (s.1.set e.thread.toNat { t with comments := t.comments + 1, resolved := false }, s.2)) else
    if t.resolved = true then (11, s) else
    if t.user ≠ e.user then (13, s) else (0, (s.1.set e.thread.toNat { t with resolved := true }, s.2))
def runFrom (i : Nat) (s : St) : List Ev → Fault × St
  | [] => (⟨0, 0⟩, s)
  | e :: es => if (stepE s e).1 ≠ 0 then (⟨(stepE s e).1, i⟩, ([], [])) else runFrom (i + 1) (stepE s e).2 es
def runV (text : List ByteArray) (es : List Ev) : Fault × St :=
  if secondF (linesF text) (-2) ≠ ⟨0, 0⟩ then (secondF (linesF text) (-2), ([], [])) else if 30 < es.length then (⟨2, -1⟩, ([], [])) else runFrom 0 ([], text) es
theorem runFrom_drop {es : List Ev} {k : Nat} (h : k < es.length) (i : Nat) (s : St) : runFrom i s (es.drop k) = if (stepE s es[k]).1 ≠ 0 then (⟨(stepE s es[k]).1, i⟩, ([], [])) else runFrom (i + 1) (stepE s es[k]).2 (es.drop (k + 1)) := by
  rw [List.drop_eq_getElem_cons h, runFrom]
structure RI (s : St) (k : Nat) : Prop where
  few : s.1.length ≤ 12
  len : s.2.length ≤ 120
  lo : ∀ t ∈ s.1, 0 ≤ t.line
  hi : ∀ t ∈ s.1, t.line ≤ 120
  cur : ∀ t ∈ s.1, t.outdated = false → t.line < s.2.length
  clo : ∀ t ∈ s.1, 0 ≤ t.comments
  chi : ∀ t ∈ s.1, t.comments ≤ k
theorem RI.up {s : St} {k k' : Nat} (h : RI s k) (hk : k ≤ k') : RI s k' := ⟨h.few, h.len, h.lo, h.hi, h.cur, h.clo, fun t ht => by have := h.chi t ht; omega⟩
theorem Yl (p : List Hunk) (t : Thr) : (followT p t).comments = t.comments := by unfold followT; split; rfl; split <;> rfl
theorem Xx {p : List Hunk} {t : Thr} (h : t.outdated = true) : followT p t = t := by rw [followT, if_pos h]
theorem followT_cur {p : List Hunk} {t : Thr} (h : (followT p t).outdated = false) : t.outdated = false ∧ (place p t.line 0).2 = true ∧ (followT p t).line = (place p t.line 0).1 := by
  by_cases h1 : t.outdated = true
  · rw [Xx h1] at h; rw [h] at h1; cases h1
  · have h1' : t.outdated = false := by simpa using h1
    rw [followT, if_neg h1] at h ⊢
    by_cases h2 : (place p t.line 0).2 = true
    · rw [if_pos h2]; exact ⟨h1', h2, rfl⟩
    · rw [if_neg h2] at h; cases h
theorem followT_line {p : List Hunk} {t : Thr} (h : (followT p t).outdated = true) : (followT p t).line = t.line := by
  by_cases h1 : t.outdated = true
  · rw [Xx h1]
  · rw [followT, if_neg h1] at h ⊢
    by_cases h2 : (place p t.line 0).2 = true
    · rw [if_pos h2] at h; cases h
    · rw [if_neg h2]
theorem kept_line {p : List Hunk} {text : List ByteArray} (a : AppOk p text) {line : Int} (h0 : 0 ≤ line) (h1 : line < text.length) (hk : (place p line 0).2 = true) :
    0 ≤ (place p line 0).1 ∧ (place p line 0).1 < (rawFrom 0 p text).length ∧ (rawFrom 0 p text)[(place p line 0).1.toNat]? = text[line.toNat]? := by
  obtain ⟨i, rfl⟩ := Int.eq_ofNat_of_zero_le h0
  obtain ⟨j, hj, hr⟩ := kept_text a (i := i) (by omega) hk
  have hlt := (List.getElem?_eq_some_iff.1 hr).1
  rw [hj]
  refine ⟨by omega, by omega, ?_⟩
  rw [Int.toNat_natCast, Int.toNat_natCast, hr, List.getElem?_eq_getElem (by omega)]
theorem stepE_RI {s : St} {k : Nat} (h : RI s k) (e : Ev) (h0 : (stepE s e).1 = 0) : RI (stepE s e).2 (k + 1) := by
  unfold stepE at h0 ⊢
  by_cases h1 : formC e ≠ 0
  · rw [if_pos h1] at h0; exact absurd h0 h1
  rw [if_neg h1] at h0 ⊢
  by_cases h2 : e.kind = 1
  · rw [if_pos h2] at h0 ⊢
    by_cases h3 : e.line < 0 ∨ (s.2.length : Int) ≤ e.line
    · rw [if_pos h3] at h0; cases h0
    rw [if_neg h3] at h0 ⊢
    by_cases h4 : 12 ≤ s.1.length
    · rw [if_pos h4] at h0; cases h0
    rw [if_neg h4] at h0 ⊢
    have hl := h.len
    refine ⟨by simp; omega, h.len, fun t ht => ?_, fun t ht => ?_, fun t ht ho => ?_, fun t ht => ?_, fun t ht => ?_⟩ <;> rcases List.mem_append.1 ht with ht | ht
    · exact h.lo t ht
    · rw [List.mem_singleton.1 ht]; show 0 ≤ e.line; omega
    · exact h.hi t ht
    · rw [List.mem_singleton.1 ht]; show e.line ≤ 120; omega
    · exact h.cur t ht ho
    · rw [List.mem_singleton.1 ht]; show e.line < (s.2.length : Int); omega
    · exact h.clo t ht
    · rw [List.mem_singleton.1 ht]; show (0 : Int) ≤ 1; omega
    · have := h.chi t ht; omega
    · rw [List.mem_singleton.1 ht]; show (1 : Int) ≤ _; omega
  rw [if_neg h2] at h0 ⊢
  by_cases h3 : e.kind = 4
  · rw [if_pos h3] at h0 ⊢
    unfold patchT at h0 ⊢
    by_cases h4 : applyF e.patch s.2 ≠ ⟨0, 0⟩
    · rw [if_pos h4] at h0
      exact absurd (Xd h0).1 h4
    rw [if_neg h4] at h0 ⊢
    have ha := (Xd (hs := e.patch) (text := s.2) (by rw [Decidable.not_not.1 h4])).2.1
    have hb : ∀ t ∈ s.1, 0 ≤ (followT e.patch t).line ∧ (followT e.patch t).line ≤ 120 ∧ ((followT e.patch t).outdated = false → (followT e.patch t).line < (rawFrom 0 e.patch s.2).length) := by
      intro t ht
      cases ho : (followT e.patch t).outdated with
      | true => rw [followT_line ho]; exact ⟨h.lo t ht, h.hi t ht, fun h => by cases h⟩
      | false =>
        obtain ⟨c1, c2, c3⟩ := followT_cur ho
        obtain ⟨d1, d2, _⟩ := kept_line ha (h.lo t ht) (h.cur t ht c1) c2
        have := ha.len
        rw [c3]; exact ⟨d1, by omega, fun _ => d2⟩
    refine ⟨by simp; exact h.few, ha.len, fun t ht => ?_, fun t ht => ?_, fun t ht ho => ?_, fun t ht => ?_, fun t ht => ?_⟩ <;> obtain ⟨u, hu, rfl⟩ := List.mem_map.1 ht
    · exact (hb u hu).1
    · exact (hb u hu).2.1
    · exact (hb u hu).2.2 ho
    · rw [Yl]; exact h.clo u hu
    · rw [Yl]; have := h.chi u hu; omega
  rw [if_neg h3] at h0 ⊢
  cases ht : s.1[e.thread.toNat]? with
  | none => rw [ht] at h0; cases h0
  | some t =>
    rw [ht] at h0
    simp only at h0 ⊢
    have htm : t ∈ s.1 := List.mem_of_getElem? ht
    have key : ∀ t' : Thr, t'.line = t.line → t'.outdated = t.outdated → 0 ≤ t'.comments → t'.comments ≤ (k : Int) + 1 → RI (s.1.set e.thread.toNat t', s.2) (k + 1) := by
      intro t' e1 e2 e3 e4
      refine ⟨by simp; exact h.few, h.len, fun u hu => ?_, fun u hu => ?_, fun u hu ho => ?_, fun u hu => ?_, fun u hu => ?_⟩ <;> rcases List.mem_or_eq_of_mem_set hu with hu | rfl
      · exact h.lo u hu
      · rw [e1]; exact h.lo t htm
      · exact h.hi u hu
      · rw [e1]; exact h.hi t htm
      · exact h.cur u hu ho
      · rw [e1]; exact h.cur t htm (by rw [← e2]; exact ho)
      · exact h.clo u hu
      · exact e3
      · have := h.chi u hu; omega
      · show _ ≤ ((k + 1 : Nat) : Int); omega
    have c1 := h.clo t htm
    have c2 := h.chi t htm
    by_cases h5 : e.thread < 0
    · rw [if_pos h5] at h0; cases h0
    rw [if_neg h5] at h0 ⊢
    by_cases h6 : e.kind = 2
    · rw [if_pos h6]; exact key _ rfl rfl (by show 0 ≤ t.comments + 1; omega) (by show t.comments + 1 ≤ _; omega)
    rw [if_neg h6] at h0 ⊢
    by_cases h7 : t.resolved = true
    · rw [if_pos h7] at h0; cases h0
    rw [if_neg h7] at h0 ⊢
    by_cases h8 : t.user ≠ e.user
    · rw [if_pos h8] at h0; cases h0
    rw [if_neg h8]; exact key _ rfl rfl c1 (by show t.comments ≤ _; omega)
theorem RI.start (text : List ByteArray) (h : text.length ≤ 120) : RI ([], text) 0 := ⟨by simp, h, by simp, by simp, by simp, by simp, by simp⟩
def thrP (A : Option Addr) (len : Nat) (n : Int) : Option Addr := if 0 ≤ n ∧ n < len then A.map (·.add (n.toNat * 5)) else none
def flK (p : List Hunk) (l : List Thr) (k : Nat) : List Thr := (l.take k).map (followT p) ++ l.drop k
theorem Uy (p : List Hunk) (l : List Thr) {k : Nat} (h : k ≤ l.length) : (flK p l k).length = l.length := by
  simp only [flK, List.length_append, List.length_map, List.length_take, List.length_drop]; omega
theorem UK {p : List Hunk} {l : List Thr} {k : Nat} (h : k < l.length) : (flK p l k)[k]? = some l[k] := by
  rw [flK, List.getElem?_append_right (by simp; omega)]
  simp only [List.length_map, List.length_take]
  rw [show k - min k l.length = 0 by omega, List.getElem?_drop, Nat.add_zero, List.getElem?_eq_getElem h]
theorem flK_set {p : List Hunk} {l : List Thr} {k : Nat} (h : k < l.length) {t : Thr} (ht : t = followT p l[k]) : (flK p l k).set k t = flK p l (k + 1) := by
  subst ht
  rw [flK, flK, List.take_succ_eq_append_getElem h, List.drop_eq_getElem_cons h, List.set_append_right _ _ (by simp; omega)]
  simp only [List.length_map, List.length_take, List.map_append]
  rw [show k - min k l.length = 0 by omega, List.set_cons_zero, List.append_assoc]; rfl
theorem flK_same {p : List Hunk} {l : List Thr} {k : Nat} (h : k < l.length) (ht : followT p l[k] = l[k]) : flK p l k = flK p l (k + 1) := by
  have := flK_set (p := p) h (t := l[k]) ht.symm
  rw [← this]
  apply List.ext_getElem?
  intro j
  rw [List.getElem?_set]
  by_cases hj : k = j
  · subst hj
    rw [if_pos rfl, if_pos (by rw [Uy p l (by omega)]; exact h), UK h]
  · rw [if_neg hj]
theorem flK_all (p : List Hunk) (l : List Thr) {k : Nat} (h : l.length ≤ k) : flK p l k = l.map (followT p) := by
  rw [flK, List.take_of_length_le h, List.drop_eq_nil_of_le h, List.append_nil]
theorem linesF_one (s : ByteArray) : (linesF [s]).code = lineCode s := by
  rw [linesF, if_neg (by simp)]
  by_cases h : lineCode s = 0
  · rw [Qy (fun j hj => by have e9 : j = 0 := (by simpa using hj); subst e9; exact h), h]
  · rw [Uf (k := 0) (by simp) (fun j _ hj => absurd hj (by omega)) h]; rfl
theorem thrP_none {A : Option Addr} {len : Nat} {n : Int} (hs : 0 < len → ∃ ad, A = some ad) (h : (thrP A len n).isNone = true) : ¬ (0 ≤ n ∧ n < len) := fun hr => by
  obtain ⟨ad, rfl⟩ := hs (by omega)
  rw [thrP, if_pos hr] at h; cases h
theorem thrP_some {A : Option Addr} {len : Nat} {n : Int} (h : (thrP A len n).isNone = false) : 0 ≤ n ∧ n < len := by
  apply Classical.byContradiction
  intro hr
  rw [thrP, if_neg hr] at h; cases h
theorem stepE_miss {s : St} {e : Ev} (h0 : formC e = 0) (h1 : e.kind ≠ 1) (h4 : e.kind ≠ 4) (hn : ¬ (0 ≤ e.thread ∧ e.thread < s.1.length)) : stepE s e = (6, s) := by
  rw [stepE, if_neg (by simp [h0]), if_neg h1, if_neg h4]
  cases ht : s.1[e.thread.toNat]? with
  | none => rfl
  | some t =>
    have := (List.getElem?_eq_some_iff.1 ht).1
    simp only
    rw [if_pos (by omega)]
theorem stepE_hit {s : St} {e : Ev} {t : Thr} (h0 : formC e = 0) (h1 : e.kind ≠ 1) (h4 : e.kind ≠ 4) (hn : 0 ≤ e.thread) (ht : s.1[e.thread.toNat]? = some t) : stepE s e =
    if e.kind = 2 then (0, (s.1.set e.thread.toNat { t with comments := t.comments + 1, resolved := false }, s.2)) else
    if t.resolved = true then (11, s) else
    if t.user ≠ e.user then (13, s) else (0, (s.1.set e.thread.toNat { t with resolved := true }, s.2)) := by
  rw [stepE, if_neg (by simp [h0]), if_neg h1, if_neg h4, ht]
  simp only
  rw [if_neg (by omega)]
theorem stepE_patch {s : St} {e : Ev} (h0 : formC e = 0) (h4 : e.kind = 4) : stepE s e = patchT s e.patch := by
  rw [stepE, if_neg (by simp [h0]), if_neg (by omega), if_pos h4]
theorem Yr {s : St} {e : Ev} (h0 : formC e = 0) (h1 : e.kind = 1) : stepE s e = if e.line < 0 ∨ (s.2.length : Int) ≤ e.line then (3, s) else if 12 ≤ s.1.length then (14, s) else (0, (s.1 ++ [⟨e.user, e.line, 1, false, false⟩], s.2)) := by
  rw [stepE, if_neg (by simp [h0]), if_pos h1]
end Go.Cf
namespace Go.Cf
structure Vote where
  user : Int
  rev : Int
  val : Int
  deriving DecidableEq
abbrev voteCells (v : Vote) : List Value := [.int .i64 v.user, .int .i64 v.rev, .int .i64 v.val]
namespace Votes
def Bad (n : Nat) (v : Vote) : Prop := v.user < 0 ∨ 7 < v.user ∨ v.rev < 0 ∨ (n : Int) ≤ v.rev ∨ v.val < -2 ∨ 2 < v.val
instance (n : Nat) (v : Vote) : Decidable (Bad n v) := by unfold Bad; infer_instance
def valGo (n : Nat) : Nat → Int → List Vote → Fault
  | _, _, [] => ⟨0, 0⟩
  | i, prev, v :: l => if Bad n v then ⟨3, i⟩ else if v.rev < prev then ⟨5, i⟩ else valGo n (i + 1) v.rev l
def validate (l : List Vote) (tr : List Bool) : Fault :=
  if 40 < l.length then ⟨2, -1⟩ else if tr.length = 0 ∨ 12 < tr.length then ⟨9, -2⟩ else if tr.getD 0 false = true then ⟨5, -2⟩ else valGo tr.length 0 0 l
def prevRev (l : List Vote) (k : Nat) : Int := if k = 0 then 0 else (l.getD (k - 1) ⟨0, 0, 0⟩).rev
theorem valGo_step (n : Nat) (l : List Vote) (k : Nat) (p : Int) (h : k < l.length) :
    valGo n k p (l.drop k) = if Bad n l[k] then ⟨3, k⟩ else if l[k].rev < p then ⟨5, k⟩ else valGo n (k + 1) l[k].rev (l.drop (k + 1)) := by
  rw [List.drop_eq_getElem_cons h]; rfl
theorem prevRev_succ (l : List Vote) (k : Nat) (h : k < l.length) : prevRev l (k + 1) = l[k].rev := by
  simp [prevRev, h]
theorem prevRev_at (l : List Vote) (k : Nat) (h0 : 0 < k) (h : k - 1 < l.length) : prevRev l k = (l[k - 1]).rev := by
  simp [prevRev, h, Nat.ne_of_gt h0]
theorem valGo_ok (n : Nat) : ∀ (l : List Vote) (k : Nat) (p : Int), valGo n k p l = ⟨0, 0⟩ → (∀ v ∈ l, ¬ Bad n v) ∧ l.Pairwise (fun a b => a.rev ≤ b.rev) ∧ ∀ v ∈ l, p ≤ v.rev
  | [], _, _, _ => by simp
  | v :: l, k, p, h => by
    unfold valGo at h
    split at h
    · injection h with h1; omega
    · rename_i hb
      split at h
      · injection h with h1; omega
      · rename_i hp
        obtain ⟨h1, h2, h3⟩ := valGo_ok n l (k + 1) v.rev h
        refine ⟨?_, ?_, ?_⟩
        · intro u hu
          rcases List.mem_cons.1 hu with rfl | hu
          · exact hb
          · exact h1 u hu
        · rw [List.pairwise_cons]; exact ⟨h3, h2⟩
        · intro u hu
          rcases List.mem_cons.1 hu with rfl | hu
          · omega
          · have := h3 u hu; omega
structure Ok (l : List Vote) (tr : List Bool) : Prop where
  few : l.length ≤ 40
  some : 0 < tr.length
  short : tr.length ≤ 12
  first : tr.getD 0 false = false
  good : ∀ v ∈ l, ¬ Bad tr.length v
  sorted : l.Pairwise (fun a b => a.rev ≤ b.rev)
theorem ok_of (l : List Vote) (tr : List Bool) (h : validate l tr = ⟨0, 0⟩) : Ok l tr := by
  unfold validate at h
  split at h
  · injection h with h1; omega
  · split at h
    · injection h with h1; omega
    · split at h
      · injection h with h1; omega
      · rename_i h1 h2 h3
        obtain ⟨g1, g2, _⟩ := valGo_ok _ l 0 0 h
        exact ⟨by omega, by omega, by omega, by simpa using h3, g1, g2⟩
def cnt (tr : List Bool) (at_ : Nat) (v : Vote) : Bool := ((tr.drop (v.rev.toNat + 1)).take (at_ - v.rev.toNat)).all id
def stepSt (tr : List Bool) (at_ : Nat) (out : List (Int × Bool)) (v : Vote) : List (Int × Bool) :=
  if (at_ : Int) < v.rev then out else out.set v.user.toNat (v.val, cnt tr at_ v || decide (v.val = -2))
def statesOf (l : List Vote) (tr : List Bool) (at_ : Nat) : List (Int × Bool) := l.foldl (stepSt tr at_) (List.replicate 8 (0, false))
abbrev stCells (s : Int × Bool) : List Value := [.int .i64 s.1, .bool s.2]
theorem wide_st : Wide stCells 2 := fun _ => ⟨rfl, by simp [stCells, Value.oneCell']⟩
theorem foldl_len (tr : List Bool) (at_ : Nat) : ∀ (l : List Vote) (o : List (Int × Bool)), (l.foldl (stepSt tr at_) o).length = o.length
  | [], _ => rfl
  | v :: l, o => by
    rw [List.foldl_cons, foldl_len tr at_ l]
    unfold stepSt; split <;> simp
theorem statesOf_len (l : List Vote) (tr : List Bool) (at_ : Nat) : (statesOf l tr at_).length = 8 := by
  unfold statesOf; rw [foldl_len]; rfl
theorem foldl_take_succ {β : Type} (f : β → Vote → β) (b : β) (l : List Vote) (k : Nat) (h : k < l.length) : (l.take (k + 1)).foldl f b = f ((l.take k).foldl f b) l[k] := by
  rw [List.take_succ_eq_append_getElem h, List.foldl_append]; rfl
def stateF (l : List Vote) (tr : List Bool) (at_ : Int) : Fault :=
  if validate l tr ≠ ⟨0, 0⟩ then validate l tr else if at_ < 0 ∨ (tr.length : Int) ≤ at_ then ⟨3, -3⟩ else ⟨0, 0⟩
def stateL (l : List Vote) (tr : List Bool) (at_ : Int) : List (Int × Bool) := if stateF l tr at_ = ⟨0, 0⟩ then statesOf l tr at_.toNat else List.replicate 8 (0, false)
theorem stateL_len (l : List Vote) (tr : List Bool) (at_ : Int) : (stateL l tr at_).length = 8 := by
  unfold stateL; split
  · exact statesOf_len _ _ _
  · rfl
def curOf (s : Int × Bool) : Int := if s.2 then s.1 else 0
def curL (l : List Vote) (tr : List Bool) (at_ : Int) : List Int := if stateF l tr at_ = ⟨0, 0⟩ then (statesOf l tr at_.toNat).map curOf else []
def isum (l : List Int) : Int := l.foldl (· + ·) 0
def scoreN (l : List Vote) (tr : List Bool) (at_ : Int) : Int := isum (curL l tr at_)
def scoreV (l : List Vote) (tr : List Bool) (at_ : Int) : Bool := (curL l tr at_).any (fun n => decide (n = -2))
theorem all_take_succ (l : List Bool) (k : Nat) (h : k < l.length) : (l.take (k + 1)).all id = ((l.take k).all id && l[k]) := by
  rw [List.take_succ_eq_append_getElem h, List.all_append]; simp
theorem cnt_cut (tr : List Bool) (at_ : Nat) (v : Vote) (h0 : 0 ≤ v.rev) : cnt tr at_ v = ((tr.drop (v.rev + 1).toNat).take (((at_ : Int) + 1).toNat - (v.rev + 1).toNat)).all id := by
  unfold cnt
  have e1 : (v.rev + 1).toNat = v.rev.toNat + 1 := by omega
  have e2 : ((at_ : Int) + 1).toNat - (v.rev.toNat + 1) = at_ - v.rev.toNat := by omega
  rw [e1, e2]
theorem isum_snoc (l : List Int) (x : Int) : isum (l ++ [x]) = isum l + x := by unfold isum; rw [List.foldl_append]; rfl
theorem isum_take (l : List Int) (k : Nat) (h : k < l.length) : isum (l.take (k + 1)) = isum (l.take k) + l[k] := by
  rw [List.take_succ_eq_append_getElem h, isum_snoc]
theorem isum_bd (l : List Int) (hb : ∀ x ∈ l, -2 ≤ x ∧ x ≤ 2) : ∀ k : Nat, -2 * (k : Int) ≤ isum (l.take k) ∧ isum (l.take k) ≤ 2 * (k : Int)
  | 0 => by simp [isum]
  | k + 1 => by
    have ih := isum_bd l hb k
    by_cases h : k < l.length
    · rw [isum_take l k h]
      have := hb _ (List.getElem_mem h)
      omega
    · have e : l.take (k + 1) = l.take k := by rw [List.take_of_length_le (by omega), List.take_of_length_le (by omega)]
      rw [e]; omega
theorem foldl_bd (tr : List Bool) (at_ : Nat) : ∀ (l : List Vote) (o : List (Int × Bool)), (∀ v ∈ l, -2 ≤ v.val ∧ v.val ≤ 2) → (∀ s ∈ o, -2 ≤ s.1 ∧ s.1 ≤ 2) → ∀ s ∈ l.foldl (stepSt tr at_) o, -2 ≤ s.1 ∧ s.1 ≤ 2
  | [], _, _, h => h
  | v :: l, o, hl, ho => by
    rw [List.foldl_cons]
    refine foldl_bd tr at_ l _ (fun u hu => hl u (by simp [hu])) ?_
    intro s hs
    unfold stepSt at hs
    split at hs
    · exact ho s hs
    · rcases List.mem_or_eq_of_mem_set hs with hs | rfl
      · exact ho s hs
      · exact hl v (by simp)
theorem stateF_ok (l : List Vote) (tr : List Bool) (at_ : Int) (h : stateF l tr at_ = ⟨0, 0⟩) : Ok l tr ∧ 0 ≤ at_ ∧ at_ < tr.length := by
  unfold stateF at h
  split at h
  · rename_i h1; exact absurd h h1
  · rename_i h1
    split at h
    · injection h with h2; omega
    · exact ⟨ok_of l tr (by simpa using h1), by omega, by omega⟩
theorem states_bd (l : List Vote) (tr : List Bool) (at_ : Nat) (ok : Ok l tr) : ∀ s ∈ statesOf l tr at_, -2 ≤ s.1 ∧ s.1 ≤ 2 := by
  refine foldl_bd tr at_ l _ (fun v hv => ?_) (fun s hs => ?_)
  · have := ok.good v hv; unfold Bad at this; omega
  · rw [List.mem_replicate] at hs; rw [hs.2]; simp
theorem curL_bd (l : List Vote) (tr : List Bool) (at_ : Int) : ∀ x ∈ curL l tr at_, -2 ≤ x ∧ x ≤ 2 := by
  unfold curL
  split
  · rename_i h
    obtain ⟨ok, _, _⟩ := stateF_ok l tr at_ h
    intro x hx
    obtain ⟨s, hs, rfl⟩ := List.mem_map.1 hx
    have := states_bd l tr at_.toNat ok s hs
    unfold curOf; split <;> omega
  · intro x hx; cases hx
theorem curL_len (l : List Vote) (tr : List Bool) (at_ : Int) : (curL l tr at_).length ≤ 8 := by
  unfold curL
  split
  · rw [List.length_map, statesOf_len]; omega
  · simp
end Votes
end Go.Cf
namespace Go.Cf
open Go.RowKit
def GoodP (l : List PN) (k : Nat) : Prop := ∀ j (h : j < l.length), j < k → chk l[j] (rootsTo l j) = 0
theorem GoodP.mono {l : List PN} {j k : Nat} (h : GoodP l k) (hjk : j ≤ k) : GoodP l j := fun i hi h1 => h i hi (by omega)
section
variable {n : PN} {r : List Int}
theorem chk_leaf (h : ¬ (n.kind < 1 ∨ 7 < n.kind)) (h2 : ¬ (n.number < 0 ∨ mostN n.kind < n.number)) (h3 : n.kind < 5) : chk n r = if n.left ≠ 0 ∨ n.right ≠ 0 then 5 else 0 := by
  have ho : opN n.kind = 0 := by rw [opN, if_neg (by omega), if_neg (by omega)]
  have hw : ∀ i, want r 0 i = 0 := fun i => by rw [want, List.drop_of_length_le (by omega)]; rfl
  rw [chk, if_neg h, if_neg h2, ho, if_neg (by omega), hw, hw]
end
end Go.Cf
namespace Go.Cf
theorem size_neg (b : Tr) : (Tr.neg b).size = b.size + 1 := rfl
theorem Zo (k : Int) (a b : Tr) : (Tr.bin k a b).size = a.size + b.size + 1 := rfl
end Go.Cf
namespace Go.Cf
open Go.RowKit
def runN (p : Nat → Bool) : Nat → Nat → Nat
  | 0, i => i
  | n + 1, i => if p i = true then runN p n (i + 1) else i
def runB (p : Nat → Bool) (L i : Nat) : Nat := runN p (L - i) i
section
variable {p : Nat → Bool} {L i : Nat}
theorem run_step (h : i < L) (hp : p i = true) : runB p L i = runB p L (i + 1) := by
  unfold runB
  obtain ⟨n, hn⟩ : ∃ n, L - i = n + 1 := ⟨L - i - 1, by omega⟩
  rw [hn, show L - (i + 1) = n by omega, runN, if_pos hp]
theorem Wc (h : i < L → p i = false) : runB p L i = i := by
  unfold runB
  rcases Nat.lt_or_ge i L with h1 | h1
  · obtain ⟨n, hn⟩ : ∃ n, L - i = n + 1 := ⟨L - i - 1, by omega⟩
    rw [hn, runN, if_neg (by rw [h h1]; decide)]
  · rw [show L - i = 0 by omega]; rfl
theorem run_ge (p : Nat → Bool) (L : Nat) : ∀ (n i : Nat), L - i = n → i ≤ runB p L i ∧ (i ≤ L → runB p L i ≤ L) ∧ (runB p L i < L → p (runB p L i) = false) ∧ ∀ j, i ≤ j → j < runB p L i → p j = true
  | 0, i, h => by
    rw [Wc (fun h1 => by omega)]
    exact ⟨Nat.le_refl _, fun h => h, fun h1 => by omega, fun j h1 h2 => by omega⟩
  | n + 1, i, h => by
    by_cases hp : p i = true
    · rw [run_step (by omega) hp]
      obtain ⟨h1, h2, h3, h4⟩ := run_ge p L n (i + 1) (by omega)
      refine ⟨by omega, fun _ => h2 (by omega), h3, fun j h5 h6 => ?_⟩
      rcases Nat.lt_or_ge i j with h7 | h7
      · exact h4 j h7 h6
      · obtain rfl : i = j := by omega
        exact hp
    · rw [Wc (fun _ => by simpa using hp)]
      exact ⟨Nat.le_refl _, fun h => h, fun _ => by simpa using hp, fun j h1 h2 => by omega⟩
end
def spB (s : ByteArray) (j : Nat) : Bool := decide (byteAt s j = 32)
def woB (s : ByteArray) (j : Nat) : Bool := decide (byteAt s j ≠ 32 ∧ byteAt s j ≠ 40 ∧ byteAt s j ≠ 41)
def skipW (s : ByteArray) (i : Nat) : Nat := runB (spB s) s.size i
def endW (s : ByteArray) (i : Nat) : Nat := runB (woB s) s.size i
def nextW (s : ByteArray) (i : Nat) : Nat := if endW s i = i ∧ i < s.size then i + 1 else endW s i
theorem JY (s : ByteArray) (i : Nat) : i ≤ skipW s i := (run_ge _ _ _ i rfl).1
theorem skip_le {s : ByteArray} {i : Nat} (h : i ≤ s.size) : skipW s i ≤ s.size := (run_ge _ _ _ i rfl).2.1 h
theorem Yj (s : ByteArray) (i : Nat) : skipW s (skipW s i) = skipW s i := Wc (run_ge _ _ _ i rfl).2.2.1
theorem end_ge (s : ByteArray) (i : Nat) : i ≤ endW s i := (run_ge _ _ _ i rfl).1
theorem next_ge (s : ByteArray) (i : Nat) : i ≤ nextW s i := by
  unfold nextW
  split
  · omega
  · exact end_ge s i
theorem next_gt {s : ByteArray} {i : Nat} (h : i < s.size) : i < nextW s i := by
  unfold nextW
  have := end_ge s i
  split
  · omega
  · omega
theorem next_le {s : ByteArray} {i : Nat} (h : i ≤ s.size) : nextW s i ≤ s.size := by
  unfold nextW
  have : endW s i ≤ s.size := (run_ge _ _ _ i rfl).2.1 h
  split
  · omega
  · exact this
theorem next_end (s : ByteArray) : nextW s s.size = s.size := by
  have h : endW s s.size = s.size := Wc (fun h => by omega)
  rw [nextW, h, if_neg (by omega)]
abbrev Tk := Nat × ByteArray
def tksN (s : ByteArray) : Nat → Nat → List Tk
  | 0, _ => []
  | n + 1, i => if skipW s i < s.size then (skipW s i, s.extract (skipW s i) (nextW s (skipW s i))) :: tksN s n (nextW s (skipW s i)) else []
def tks (s : ByteArray) (i : Nat) : List Tk := tksN s (s.size - i) i
theorem tksN_more (s : ByteArray) : ∀ (n m i : Nat), s.size - i ≤ n → s.size - i ≤ m → tksN s n i = tksN s m i
  | 0, 0, _, _, _ => rfl
  | 0, m + 1, i, h, _ => by rw [tksN, tksN, if_neg (by have := JY s i; omega)]
  | n + 1, 0, i, _, h => by rw [tksN, tksN, if_neg (by have := JY s i; omega)]
  | n + 1, m + 1, i, h1, h2 => by
    rw [tksN, tksN]
    split
    · rename_i h3
      have := JY s i
      have := next_gt h3
      rw [tksN_more s n m _ (by omega) (by omega)]
    · rfl
theorem Xq {s : ByteArray} {i : Nat} (h : ¬ skipW s i < s.size) : tks s i = [] := by
  unfold tks
  cases s.size - i with
  | zero => rfl
  | succ n => rw [tksN, if_neg h]
theorem Xl {s : ByteArray} {i : Nat} (h : skipW s i < s.size) : tks s i = (skipW s i, s.extract (skipW s i) (nextW s (skipW s i))) :: tks s (nextW s (skipW s i)) := by
  have h1 := JY s i
  have h2 := next_gt h
  unfold tks
  obtain ⟨n, hn⟩ : ∃ n, s.size - i = n + 1 := ⟨s.size - i - 1, by omega⟩
  rw [hn, tksN, if_pos h, tksN_more s n _ _ (by omega) (Nat.le_refl _)]
theorem tks_skip (s : ByteArray) (i : Nat) : tks s (skipW s i) = tks s i := by
  by_cases h : skipW s i < s.size
  · rw [Xl h, Xl (by rw [Yj]; exact h), Yj]
  · rw [Xq h, Xq (by rw [Yj]; exact h)]
theorem tks_len (s : ByteArray) : ∀ (n i : Nat), s.size - i = n → (tks s i).length ≤ n := by
  intro n
  induction n using Nat.strongRecOn with
  | _ n ih =>
    intro i hi
    by_cases h : skipW s i < s.size
    · have h1 := JY s i
      have h2 := next_gt h
      rw [Xl h, List.length_cons]
      have := ih (s.size - nextW s (skipW s i)) (by omega) _ rfl
      omega
    · rw [Xq h]; exact Nat.zero_le _
inductive Res
  | bad (c : Int) (p : Nat)
  | ok (t : Tr) (ts : List Tk)
def hd : List Tk → ByteArray
  | [] => ⟨#[]⟩
  | x :: _ => x.2
def pos (L : Nat) : List Tk → Nat
  | [] => L
  | x :: _ => x.1
abbrev wNot : ByteArray := ⟨#[110, 111, 116]⟩
abbrev wL : ByteArray := ⟨#[40]⟩
abbrev wR : ByteArray := ⟨#[41]⟩
abbrev wScore : ByteArray := ⟨#[115, 99, 111, 114, 101]⟩
abbrev wUser : ByteArray := ⟨#[117, 115, 101, 114]⟩
abbrev wOwners : ByteArray := ⟨#[111, 119, 110, 101, 114, 115]⟩
abbrev wTests : ByteArray := ⟨#[116, 101, 115, 116, 115]⟩
abbrev wAnd : ByteArray := ⟨#[97, 110, 100]⟩
abbrev wOr : ByteArray := ⟨#[111, 114]⟩
def signL (lv : Nat) : ByteArray := if lv = 1 then wAnd else wOr
def kindL (lv : Nat) : Int := if lv = 1 then 6 else 7
theorem sign_ne (lv : Nat) : signL lv ≠ ⟨#[]⟩ := by unfold signL; split <;> decide
def numV (w : ByteArray) : Option Int := match Lib.atoiAll w.data.toList with
  | .ok n => if Lib.itoa n = w.data.toList then some n else none
  | _ => none
theorem numV_nil : numV ⟨#[]⟩ = none := rfl
def numR (L : Nat) (k : Int) (ts : List Tk) : Res := match numV (hd ts) with
  | none => .bad 1 (pos L ts)
  | some n => if n < 0 ∨ mostN k < n then .bad 3 (pos L ts) else .ok (.leaf k n) ts.tail
def bindR : Res → (Tr → List Tk → Res) → Res
  | .bad c p, _ => .bad c p
  | .ok t ts, f => f t ts
def fac (L : Nat) (rd2 rd0 : List Tk → Res) (ts : List Tk) : Res :=
  if hd ts = wNot then bindR (rd2 ts.tail) fun t ts' => .ok (.neg t) ts'
  else if hd ts = wL then bindR (rd0 ts.tail) fun t ts' => if hd ts' = wR then .ok t ts'.tail else .bad 1 (pos L ts')
  else if hd ts = wScore then numR L 1 ts.tail
  else if hd ts = wUser then numR L 4 ts.tail
  else if hd ts = wOwners then .ok (.leaf 2 0) ts.tail
  else if hd ts = wTests then .ok (.leaf 3 0) ts.tail
  else .bad 1 (pos L ts)
def rd (L : Nat) : Nat → Nat → Option Tr → List Tk → Res
  | 0, _, _, ts => .bad 1 (pos L ts)
  | n + 1, lv, some t, ts => if hd ts = signL lv then bindR (rd L n (lv + 1) none ts.tail) fun t2 ts' => rd L n lv (some (.bin (kindL lv) t t2)) ts' else .ok t ts
  | n + 1, lv, none, ts => if lv = 2 then fac L (rd L n 2 none) (rd L n 0 none) ts else bindR (rd L n (lv + 1) none ts) fun t ts' => rd L n lv (some t) ts'
theorem bind_ok {r : Res} {f : Tr → List Tk → Res} {t : Tr} {ts : List Tk} (h : bindR r f = .ok t ts) : ∃ a us, r = .ok a us ∧ f a us = .ok t ts := by
  cases r with
  | bad => cases h
  | ok a us => exact ⟨a, us, rfl, h⟩
theorem Wa {ts : List Tk} (h : hd ts ≠ ⟨#[]⟩) : ts.tail.length + 1 = ts.length := by
  cases ts with
  | nil => exact absurd rfl h
  | cons x ts => simp
theorem num_ok {L : Nat} {k : Int} {t : Tr} {ts ts' : List Tk} (hk : 1 ≤ k ∧ k ≤ 4) (h : numR L k ts = .ok t ts') : t.ok ∧ t.size + ts'.length ≤ ts.length := by
  unfold numR at h
  split at h
  · cases h
  · rename_i n hn
    split at h
    · cases h
    · cases h
      have := Wa (ts := ts) (fun h9 => by rw [h9, numV_nil] at hn; cases hn)
      exact ⟨⟨hk.1, hk.2, by omega, by omega⟩, by simp only [Tr.size]; omega⟩
theorem Zr (L : Nat) : ∀ (n lv : Nat) (o : Option Tr) (ts : List Tk) (t : Tr) (ts' : List Tk), (∀ a, o = some a → a.ok) → rd L n lv o ts = .ok t ts' →
    t.ok ∧ t.size + ts'.length ≤ ts.length + (o.map Tr.size).getD 0
  | 0, _, _, _, _, _, _, h => by simp [rd] at h
  | n + 1, lv, some a, ts, t, ts', ho, h => by
    rw [rd] at h
    split at h
    · rename_i h1
      obtain ⟨b, us, h2, h3⟩ := bind_ok h
      have := Wa (ts := ts) (by rw [h1]; exact sign_ne lv)
      obtain ⟨h4, h5⟩ := Zr L n _ none _ _ _ (fun _ h => by cases h) h2
      have hk : kindL lv = 6 ∨ kindL lv = 7 := by unfold kindL; split <;> simp
      obtain ⟨h6, h7⟩ := Zr L n _ (some _) _ _ _ (fun x hx => by cases hx; exact ⟨hk, ho a rfl, h4⟩) h3
      refine ⟨h6, ?_⟩
      simp only [Option.map, Option.getD, Tr.size] at h5 h7 ⊢
      omega
    · cases h
      exact ⟨ho _ rfl, by simp only [Option.map, Option.getD]; omega⟩
  | n + 1, lv, none, ts, t, ts', _, h => by
    rw [rd] at h
    split at h
    · unfold fac at h
      split at h
      · rename_i h1
        have := Wa (ts := ts) (by rw [h1]; decide)
        obtain ⟨b, us, h2, h3⟩ := bind_ok h
        obtain ⟨h4, h5⟩ := Zr L n _ none _ _ _ (fun _ h => by cases h) h2
        cases h3
        refine ⟨h4, ?_⟩
        simp only [Option.map, Option.getD, Tr.size] at h5 ⊢
        omega
      split at h
      · rename_i h1
        have := Wa (ts := ts) (by rw [h1]; decide)
        obtain ⟨b, us, h2, h3⟩ := bind_ok h
        obtain ⟨h4, h5⟩ := Zr L n _ none _ _ _ (fun _ h => by cases h) h2
        split at h3
        · rename_i h6
          cases h3
          have := Wa (ts := us) (by rw [h6]; decide)
          refine ⟨h4, ?_⟩
          simp only [Option.map, Option.getD] at h5 ⊢
          omega
        · cases h3
      split at h
      · rename_i h1
        have := Wa (ts := ts) (by rw [h1]; decide)
        obtain ⟨h2, h3⟩ := num_ok ⟨by decide, by decide⟩ h
        exact ⟨h2, by simp only [Option.map, Option.getD]; omega⟩
      split at h
      · rename_i h1
        have := Wa (ts := ts) (by rw [h1]; decide)
        obtain ⟨h2, h3⟩ := num_ok ⟨by decide, by decide⟩ h
        exact ⟨h2, by simp only [Option.map, Option.getD]; omega⟩
      split at h
      · rename_i h1
        have := Wa (ts := ts) (by rw [h1]; decide)
        cases h
        exact ⟨⟨by decide, by decide, by decide, by decide⟩, by simp only [Option.map, Option.getD, Tr.size]; omega⟩
      split at h
      · rename_i h1
        have := Wa (ts := ts) (by rw [h1]; decide)
        cases h
        exact ⟨⟨by decide, by decide, by decide, by decide⟩, by simp only [Option.map, Option.getD, Tr.size]; omega⟩
      · cases h
    · obtain ⟨b, us, h2, h3⟩ := bind_ok h
      obtain ⟨h4, h5⟩ := Zr L n _ none _ _ _ (fun _ h => by cases h) h2
      obtain ⟨h6, h7⟩ := Zr L n _ (some _) _ _ _ (fun x hx => by cases hx; exact h4) h3
      refine ⟨h6, ?_⟩
      simp only [Option.map, Option.getD] at h5 h7 ⊢
      omega
def rankW (w : ByteArray) : Nat := if w = wNot then 3 else if w = wAnd then 2 else if w = wOr then 1 else 0
def topW (s : ByteArray) : List Tr → Option (List Tr)
  | [] => none
  | [a] => if s = wNot then some [.neg a] else none
  | b :: a :: ω => if s = wNot then some (.neg b :: a :: ω) else some (.bin (8 - rankW s) a b :: ω)
def redW (low : Nat) : List ByteArray → List Tr → List ByteArray × List Tr
  | [], ω => ([], ω)
  | s :: σ, ω => if low ≤ rankW s then (match topW s ω with | some ω' => redW low σ ω' | none => (s :: σ, ω)) else (s :: σ, ω)
inductive Md
  | want
  | num (k : Int)
  | got
inductive End
  | bad (c : Int) (p : Nat)
  | ok (ω : List Tr)
def op (L : Nat) : List Tk → Md → List ByteArray → List Tr → Nat → End
  | [], .got, σ, ω, o => if 0 < o then .bad 1 L else .ok (redW 1 σ ω).2
  | [], _, _, _, _ => .bad 1 L
  | x :: ts, .want, σ, ω, o =>
    if x.2 = wNot then op L ts .want (wNot :: σ) ω o
    else if x.2 = wL then op L ts .want (wL :: σ) ω (o + 1)
    else if x.2 = wOwners then op L ts .got σ (.leaf 2 0 :: ω) o
    else if x.2 = wTests then op L ts .got σ (.leaf 3 0 :: ω) o
    else if x.2 = wScore then op L ts (.num 1) σ ω o
    else if x.2 = wUser then op L ts (.num 4) σ ω o
    else .bad 1 x.1
  | x :: ts, .num k, σ, ω, o => match numV x.2 with
    | none => .bad 1 x.1
    | some n => if n < 0 ∨ mostN k < n then .bad 3 x.1 else op L ts .got σ (.leaf k n :: ω) o
  | x :: ts, .got, σ, ω, o =>
    if x.2 = wR ∧ 0 < o then op L ts .got (redW 1 σ ω).1.tail (redW 1 σ ω).2 (o - 1)
    else if x.2 = wAnd then op L ts .want (wAnd :: (redW 2 σ ω).1) (redW 2 σ ω).2 o
    else if x.2 = wOr then op L ts .want (wOr :: (redW 1 σ ω).1) (redW 1 σ ω).2 o
    else .bad 1 x.1
end Go.Cf
namespace Go.Cf
open Go.RowKit
def madeR (t : Tr) : Fault × List PN := if 24 < t.size ∨ 12 < t.depth then (⟨10, -1⟩, []) else (⟨0, 0⟩, post t 0)
def fuelOf (s : ByteArray) : Nat := 3 * (tks s 0).length + 3
def parR (s : ByteArray) : Fault × List PN := if 200 < s.size then (⟨2, -1⟩, []) else match rd s.size (fuelOf s) 0 none (tks s 0) with
  | .bad c p => (⟨c, p⟩, [])
  | .ok t us => if us = [] then madeR t else (⟨1, pos s.size us⟩, [])
end Go.Cf
namespace Go.Cf
open Go.RowKit
def baL (l : List UInt8) : ByteArray := ⟨l.toArray⟩
theorem baL_data (l : List UInt8) : (baL l).data.toList = l := by simp [baL]
end Go.Cf
namespace Go.Cf
open Go.RowKit
theorem want_last {r : List Int} {x : Int} : want (r ++ [x]) 1 0 = x ∧ want (r ++ [x]) 1 1 = 0 := by
  have h4 : (r ++ [x]).length - 1 = r.length := by simp
  rw [want, want, h4, List.drop_left]; exact ⟨rfl, rfl⟩
theorem want_two {r : List Int} {x y : Int} : want (r ++ [x] ++ [y]) 2 0 = x ∧ want (r ++ [x] ++ [y]) 2 1 = y := by
  have h4 : (r ++ [x] ++ [y]).length - 2 = r.length := by simp
  rw [want, want, h4, List.append_assoc, List.drop_left]; exact ⟨rfl, rfl⟩
theorem Yx {l : List PN} : ∀ (t : Tr) (k : Nat), t.ok → (l.drop k).take t.size = post t k →
    rootsTo l (k + t.size) = rootsTo l k ++ [((k + t.size : Nat) : Int) - 1] ∧ ∀ j, k ≤ j → j < k + t.size → chk (nAt l j) (rootsTo l j) = 0
  | .leaf kk n, k, ho, h => by
    obtain ⟨h1, h2, h3, h4⟩ := ho
    have hn : nAt l k = ⟨kk, n, 0, 0⟩ := by rw [nAt, one_at h]; rfl
    have h0 : opN kk = 0 := by rw [opN, if_neg (by omega), if_neg (by omega)]
    constructor
    · show rootsTo l (k + 1) = _
      rw [rootsTo, hn]
      show List.take (_ - opN kk) _ ++ _ = _
      rw [h0, Nat.sub_zero, List.take_length]
      congr 2
      simp only [Tr.size]; omega
    · intro j hj1 hj2
      simp only [Tr.size] at hj2
      obtain rfl : j = k := by omega
      rw [hn, chk_leaf (by simp only; omega) (by simp only; omega) (by simp only; omega), if_neg (by simp)]
  | .neg t, k, ho, h => by
    rw [size_neg, post] at h
    obtain ⟨h1, h2⟩ := Xg h (Ql t k)
    obtain ⟨h3, h4⟩ := Yx t k ho h1
    have hn : nAt l (k + t.size) = ⟨5, 0, ((k + t.size : Nat) : Int) - 1, 0⟩ := by rw [nAt, one_at h2]; rfl
    obtain ⟨w1, w2⟩ := want_last (r := rootsTo l k) (x := ((k + t.size : Nat) : Int) - 1)
    constructor
    · rw [size_neg, ← Nat.add_assoc, rootsTo, hn, h3]
      show List.take (_ - 1) _ ++ _ = _
      rw [show (rootsTo l k ++ [((k + t.size : Nat) : Int) - 1]).length - 1 = (rootsTo l k).length by simp, List.take_left]
      congr 2
      omega
    · intro j hj1 hj2
      rw [size_neg] at hj2
      rcases Nat.lt_or_ge j (k + t.size) with h5 | h5
      · exact h4 j hj1 h5
      · obtain rfl : j = k + t.size := by omega
        have e1 : opN 5 = 1 := rfl
        have e2 : mostN 5 = 0 := rfl
        rw [hn, h3, chk]
        simp only [e1, e2]
        rw [if_neg (by omega), if_neg (by omega), if_neg (by simp), w1, w2, if_neg (by simp)]
  | .bin kk a b, k, ho, h => by
    obtain ⟨hk, hoa, hob⟩ := ho
    rw [Zo, post] at h
    obtain ⟨h0, h2⟩ := Xg h (show (post a k ++ post b (k + a.size)).length = a.size + b.size by rw [List.length_append, Ql, Ql])
    obtain ⟨h1, h1b⟩ := Xg h0 (Ql a k)
    rw [Ql] at h1b
    obtain ⟨h3, h4⟩ := Yx a k hoa h1
    obtain ⟨h5, h6⟩ := Yx b (k + a.size) hob h1b
    rw [← Nat.add_assoc] at h2
    have hn : nAt l (k + a.size + b.size) = ⟨kk, 0, ((k + a.size : Nat) : Int) - 1, ((k + a.size + b.size : Nat) : Int) - 1⟩ := by rw [nAt, one_at h2]; rfl
    obtain ⟨w1, w2⟩ := want_two (r := rootsTo l k) (x := ((k + a.size : Nat) : Int) - 1) (y := ((k + a.size + b.size : Nat) : Int) - 1)
    rw [h3] at h5
    have e1 : opN kk = 2 := by rcases hk with rfl | rfl <;> rfl
    have e2 : mostN kk = 0 := by rcases hk with rfl | rfl <;> rfl
    constructor
    · rw [Zo, ← Nat.add_assoc, ← Nat.add_assoc, rootsTo, hn, h5]
      show List.take (_ - opN kk) _ ++ _ = _
      rw [e1, show (rootsTo l k ++ [((k + a.size : Nat) : Int) - 1] ++ [((k + a.size + b.size : Nat) : Int) - 1]).length - 2 = (rootsTo l k).length by simp, List.append_assoc, List.take_left]
      congr 2
      omega
    · intro j hj1 hj2
      rw [Zo] at hj2
      rcases Nat.lt_or_ge j (k + a.size) with h7 | h7
      · exact h4 j hj1 h7
      · rcases Nat.lt_or_ge j (k + a.size + b.size) with h8 | h8
        · exact h6 j h7 h8
        · obtain rfl : j = k + a.size + b.size := by omega
          rw [hn, h5, chk]
          simp only [e1, e2]
          rw [if_neg (by omega), if_neg (by omega), if_neg (by simp), w1, w2, if_neg (by simp)]
theorem post_all (t : Tr) (ho : t.ok) : rootsTo (post t 0) t.size = [(t.size : Int) - 1] ∧ ∀ j (h : j < (post t 0).length), chk (post t 0)[j] (rootsTo (post t 0) j) = 0 := by
  obtain ⟨h1, h2⟩ := Yx (l := post t 0) t 0 ho (by rw [List.drop_zero, ← Ql t 0, List.take_length])
  rw [Nat.zero_add] at h1 h2
  refine ⟨h1, fun j h => ?_⟩
  rw [← nAt_at h]
  exact h2 j (Nat.zero_le _) (by rw [Ql] at h; exact h)
theorem depL_post {t : Tr} (ho : t.ok) : depL (post t 0) = t.depth := by
  rw [depL, Ql]; exact dep_at t _ ho (At.whole t)
def push (n : PN) : List Tr → List Tr
  | [] => [.leaf n.kind n.number]
  | [a] => if n.kind = 5 then [.neg a] else [.leaf n.kind n.number, a]
  | b :: a :: s => if n.kind = 5 then .neg b :: a :: s else if n.kind < 5 then .leaf n.kind n.number :: b :: a :: s else .bin n.kind a b :: s
def stk : List PN → List Tr → List Tr
  | [], s => s
  | n :: l, s => stk l (push n s)
def treeOf (l : List PN) : Tr := (stk l []).headD (.leaf 1 0)
theorem push_leaf {k n : Int} (h : k ≤ 4) (s : List Tr) : push ⟨k, n, 0, 0⟩ s = .leaf k n :: s := by
  match s with
  | [] => rfl
  | [a] => rw [push, if_neg (by simp only; omega)]
  | b :: a :: s => rw [push, if_neg (by simp only; omega), if_pos (by simp only; omega)]
theorem push_neg {i : Int} (t : Tr) (s : List Tr) : push ⟨5, 0, i, 0⟩ (t :: s) = .neg t :: s := by
  cases s with
  | nil => rw [push, if_pos rfl]
  | cons a s => rw [push, if_pos rfl]
theorem stk_post : ∀ (t : Tr) (off : Nat) (l : List PN) (s : List Tr), t.ok → stk (post t off ++ l) s = stk l (t :: s)
  | .leaf k n, off, l, s, h => by
    show stk l (push ⟨k, n, 0, 0⟩ s) = _
    rw [push_leaf h.2.1]
  | .neg t, off, l, s, h => by
    rw [post, List.append_assoc, stk_post t _ _ _ h]
    show stk l (push _ (t :: s)) = _
    rw [push_neg]
  | .bin k a b, off, l, s, h => by
    rw [post, List.append_assoc, List.append_assoc, stk_post a _ _ _ h.2.1, stk_post b _ _ _ h.2.2]
    show stk l (push _ (b :: a :: s)) = _
    have hk := h.1
    rw [push, if_neg (by simp only; omega), if_neg (by simp only; omega)]
theorem treeOf_post {t : Tr} (h : t.ok) : treeOf (post t 0) = t := by
  have := stk_post t 0 [] [] h
  rw [List.append_nil] at this
  rw [treeOf, this]; rfl
theorem IsTr.tree {l : List PN} {t : Tr} (h : IsTr l t) : treeOf l = t := by rw [h.eq, treeOf_post h.ok]
end Go.Cf
namespace Go.Cf
open Go.RowKit
theorem Wy (o : List PN) (t : Tr) : (o ++ post t o.length).length = o.length + t.size := by rw [List.length_append, Ql]
theorem post_bin_app (o : List PN) (k : Int) (a b : Tr) : o ++ post a o.length ++ post b (o ++ post a o.length).length ++ [⟨k, 0, ((o.length + a.size : Nat) : Int) - 1, (((o ++ post a o.length).length + b.size : Nat) : Int) - 1⟩] = o ++ post (.bin k a b) o.length := by
  rw [Wy, post]
  simp only [List.append_assoc]
theorem post_neg_app (o : List PN) (t : Tr) : o ++ post t o.length ++ [⟨5, 0, ((o.length + t.size : Nat) : Int) - 1, 0⟩] = o ++ post (.neg t) o.length := by
  rw [post]
  simp only [List.append_assoc]
theorem linked_post {t : Tr} (ho : t.ok) : Linked (post t 0) := linked_of (post_all t ho).2
end Go.Cf
namespace Go.Cf
open Go.RowKit
abbrev nWhy : ByteArray := ⟨#[119, 104, 121]⟩
abbrev nX : ByteArray := ⟨#[120]⟩
abbrev nOwn : ByteArray := ⟨#[111, 119, 110, 101, 114, 115]⟩
abbrev nPats : List (List Hunk) := [[⟨0, [], [nX]⟩]]
theorem nex_run : runV [xA] [⟨1, 1, 0, 0, nWhy, []⟩] = (⟨0, 0⟩, ([⟨1, 0, 1, false, false⟩], [xA])) := by decide +kernel
theorem nex_thrF : throughF nPats 0 = ⟨0, 0⟩ := by rfl
theorem nex_thr : throughV nPats 0 = (1, 1) := by rfl
theorem nex_app : approveF [] 1 [xA] = ⟨0, 0⟩ := by decide +kernel
theorem nex_apl : approveV [] 1 [xA] = [⟨1, xA, -1⟩] := by rw [approveV, if_pos nex_app]; rfl
theorem nex_par : (parR nOwn).1 = ⟨0, 0⟩ := by rfl
theorem nex_parl : (parR nOwn).2.length = 1 := by rfl
theorem nex_sc : Votes.scoreN [⟨0, 0, 2⟩] [false] 0 = 2 := by rfl
theorem nex_sv : Votes.scoreV [⟨0, 0, 2⟩] [false] 0 = false := by rfl
theorem nex_sf : Votes.stateF [⟨0, 0, 2⟩] [false] 0 = ⟨0, 0⟩ := by rfl
end Go.Cf
namespace Go.Cf
open Go.ChangeShapes Go.WideShapes Go.ChangeAt Go.RowKit Go.Deep
theorem MU {H : Type} {enc : TypeId × Value → H} {P : Program} (hl : laidOutB P = true) {W W' : World} (hb : Below W.heap.size W W') :
    ∀ {ts : List TypeId} {vs : List Value} {ds : List (DataW H)} {ps : List MemPlace}, (∀ t ∈ ts, P.readableRec t = true ∧ t < P.types.size) → DataW.TrodAll enc P W 0 (fun _ => true) true ts vs ds ps →
      DataW.TrodAll enc P W' 0 (fun b => decide (b < W.heap.size)) true ts vs ds ps
  | [], _, _, _, _, h => by
    obtain ⟨rfl, rfl, rfl⟩ := trodAll_nil h
    exact trodAll_mk0
  | t :: ts, _, _, _, hr, h => by
    obtain ⟨v, vs', d, ds', p, q, rfl, rfl, rfl, h1, h2⟩ := trodAll_cons h
    have lt : ∀ x ∈ p, x.block < W.heap.size := by obtain ⟨m, hm⟩ := h1; exact DataW.trod_lt m _ _ _ hm
    exact trodAll_cons_mk (Below.trod hl (hr t (by simp)).1 (hr t (by simp)).2 h1 hb lt) (MU hl hb (fun t' ht' => hr t' (by simp [ht'])) h2)
section
variable {H : Type} {enc : TypeId × Value → H} {P : Program} {w : World} {t e : TypeId} {v : Value} {d : DataW H} {p : List MemPlace} {b0 : Nat}
theorem Wm {ts : List TypeId} {ds : List (DataW H)} {t : TypeId} {d : DataW H} (h : (DataW.weightsEach P (t :: ts) (d :: ds)).all (· ≤ reachBytes) = true) :
    (d.weights P t).all (· ≤ reachBytes) = true ∧ (DataW.weightsEach P ts ds).all (· ≤ reachBytes) = true := by
  simpa [DataW.weightsEach, List.all_append] using h
theorem weights_all {ds : List (DataW H)} (h : (DataW.weightsAll P e ds).all (· ≤ reachBytes) = true) : ∀ d ∈ ds, (d.weights P e).all (· ≤ reachBytes) = true := by
  induction ds with
  | nil => intro d hd; cases hd
  | cons x r ih =>
    simp only [DataW.weightsAll, List.all_append, Bool.and_eq_true] at h
    intro d hd
    rcases List.mem_cons.1 hd with rfl | hd
    · exact h.1
    · exact ih h.2 d hd
theorem weights_get : ∀ {ts : List TypeId} {ds : List (DataW H)}, (DataW.weightsEach P ts ds).all (· ≤ reachBytes) = true → ∀ (i : Nat) (t : TypeId) (d : DataW H), ts[i]? = some t → ds[i]? = some d → (d.weights P t).all (· ≤ reachBytes) = true
  | [], _, _, i, t, d, h1, _ => by simp at h1
  | _ :: _, [], _, i, t, d, _, h2 => by simp at h2
  | t0 :: ts, d0 :: ds, h, 0, t, d, h1, h2 => by
    simp at h1 h2
    subst h1 h2
    exact (Wm h).1
  | t0 :: ts, d0 :: ds, h, i + 1, t, d, h1, h2 => weights_get (Wm h).2 i t d (by simpa using h1) (by simpa using h2)
theorem Xh {fs : Array Field} {n : Nat} {cs : List Value} {x : DataW H × List MemPlace} (ht : P.underlying t = some (.struct fs)) (h : DataW.trod enc P w 0 (fun _ => true) true n t cs = some x) (hw : (x.1.weights P t).all (· ≤ reachBytes) = true) :
    ∃ m, cs.length = P.cellsOf t ∧ ∀ (i : Nat) (f : Field), fs[i]? = some f → ∃ y, DataW.trod enc P w 0 (fun _ => true) true m f.type ((cs.drop f.offset).take (P.cellsOf f.type)) = some y ∧ (y.1.weights P f.type).all (· ≤ reachBytes) = true := by
  obtain ⟨ys, m, _, hx, hl, hn, hf⟩ := DataW.trod_struct ht h
  refine ⟨m, hl, fun i f hi => ?_⟩
  have hlt : i < fs.size := by
    rcases Nat.lt_or_ge i fs.size with h | h
    · exact h
    · rw [Array.getElem?_eq_none h] at hi; cases hi
  obtain ⟨y, hy⟩ : ∃ y, ys[i]? = some y := ⟨_, List.getElem?_eq_getElem (by omega)⟩
  refine ⟨y, (hf i f hi).trans hy, ?_⟩
  rw [hx] at hw
  simp only [DataW.weights, ht] at hw
  exact weights_get hw i f.type y.1 (by simp [hi]) (by simp [hy])
theorem choose_list {α : Type} (n : Nat) (Q : Nat → α → Prop) (h : ∀ i, i < n → ∃ a, Q i a) : ∃ l : List α, l.length = n ∧ ∀ i a, l[i]? = some a → Q i a := by
  induction n with
  | zero => exact ⟨[], rfl, fun i a h => by simp at h⟩
  | succ n ih =>
    obtain ⟨l, hl, hq⟩ := ih (fun i hi => h i (by omega))
    obtain ⟨a, ha⟩ := h n (by omega)
    refine ⟨l ++ [a], by simp [hl], fun i b hb => ?_⟩
    rcases Nat.lt_or_ge i n with hi | hi
    · rw [List.getElem?_append_left (by omega)] at hb; exact hq i b hb
    · rw [List.getElem?_append_right (by omega), hl] at hb
      have : i - n = 0 := by
        rcases Nat.eq_zero_or_pos (i - n) with h0 | h0
        · exact h0
        · rw [List.getElem?_eq_none (by simp; omega)] at hb; cases hb
      rw [this] at hb
      simp at hb
      have hi' : i = n := by omega
      rw [← hb, hi']; exact ha
theorem Xo {α : Type} {f : α → List Value} {size : Nat} {Q : α → Prop} {fuel : Nat} {cs : List Value} {x : DataW H × List MemPlace} (ht : P.underlying t = some (.slice e)) (hC : P.cellsOf e = size)
    (hel : ∀ (n : Nat) (cs : List Value) (x : DataW H × List MemPlace), DataW.trod enc P w 0 (fun _ => true) true n e cs = some x → (x.1.weights P e).all (· ≤ reachBytes) = true → ∃ a, cs = f a ∧ Q a)
    (h : DataW.trod enc P w 0 (fun _ => true) true fuel t cs = some x) (hw : (x.1.weights P t).all (· ≤ reachBytes) = true) :
    ∃ (A : Option Addr) (c : Nat) (l : List α), cs = [.slice A l.length c] ∧ Rdl w 0 size f A l ∧ l.length ≤ c ∧ c ≤ maxLen ∧ (A = none → c = 0) ∧ c * P.bytesOf e ≤ reachBytes ∧ ∀ a ∈ l, Q a := by
  rcases open_slice ht h with ⟨h0, h1⟩ | ⟨a, len, cap, m, n, D, Pl, hcs, hb, hlc, hm, hmm, hx, hi⟩
  · exact ⟨none, 0, [], by simpa using h0, Rdl.nil, Nat.le_refl _, by unfold maxLen; omega, fun _ => rfl, by simp, fun a ha => by cases ha⟩
  · simp only [if_true] at hmm
    obtain rfl : m = cap := hmm
    have hwx : ((DataW.slice ((List.range len).map D) ((List.range (m - len)).map fun j => D (len + j))).weights P t).all (· ≤ reachBytes) = true := by rw [hx] at hw; exact hw
    simp only [DataW.weights, ht, List.all_cons, List.all_append, Bool.and_eq_true, decide_eq_true_eq, List.length_map, List.length_range] at hwx
    obtain ⟨hw1, hw2, _⟩ := hwx
    have hw2' := weights_all hw2
    obtain ⟨l, hl, hq⟩ := choose_list len (fun i a' => Q a' ∧ ∀ j u, (f a')[j]? = some u → w.cell? (a.add (i * size + j)) = some u) (fun i hlt => by
      obtain ⟨cs', hc, ht'⟩ := hi i (by omega)
      obtain ⟨a', he, hqa⟩ := hel n cs' (D i, Pl i) ht' (hw2' (D i) (List.mem_map.2 ⟨i, by simpa using hlt, rfl⟩))
      refine ⟨a', hqa, fun j u hu => ?_⟩
      obtain ⟨_, hcl, hat⟩ := World.cells?_some hc
      rw [← he] at hu
      have hj : j < P.cellsOf e := by
        rcases Nat.lt_or_ge j (P.cellsOf e) with h | h
        · exact h
        · rw [List.getElem?_eq_none (by omega)] at hu; cases hu
      have := hat j hj
      rw [hu, hC, add_add] at this
      exact this)
    have hlm : len + (m - len) = m := by omega
    rw [hlm] at hw1
    refine ⟨some a, m, l, by rw [hcs, hl], fun _ => ⟨a, rfl, Nat.zero_le _, fun k x hk => (hq k x hk).2⟩, by omega, hm, (fun h => by cases h), hw1, fun b hb => ?_⟩
    obtain ⟨k, hk⟩ := List.mem_iff_getElem?.1 hb
    exact (hq k b hk).1
theorem rd_agg {α : Type} {f : α → List Value} {Q : α → Prop} {fs : Array Field} (ht : P.underlying t = some (.struct fs))
    (hel : ∀ (n : Nat) (cs : List Value) (x : DataW H × List MemPlace), DataW.trod enc P w 0 (fun _ => true) true n t cs = some x → (x.1.weights P t).all (· ≤ reachBytes) = true → ∃ a, cs = f a ∧ Q a)
    (hok : Value.okWide P w .any b0 t v) (h : DataW.Trod enc P w 0 (fun _ => true) true t v d p) (hw : (d.weights P t).all (· ≤ reachBytes) = true) : ∃ a, v = .agg (f a).toArray ∧ Q a := by
  obtain ⟨cs, rfl, _⟩ := okWide_struct ht hok
  obtain ⟨fuel, hf⟩ := h
  obtain ⟨a, ha, hq⟩ := hel fuel _ _ hf hw
  refine ⟨a, ?_, hq⟩
  rw [← ha]
  simp [Value.cells]
theorem wf_in64 {n : Int} (h : (Lit.int .i64 n).wf = true) : In64 n := by
  unfold In64
  simpa [Lit.wf, IntKind.min, IntKind.max, IntKind.signed, IntKind.bits] using h
theorem rd_int (ht : P.underlying t = some (.int .i64)) (hok : Value.okWide P w .any b0 t v) (h : DataW.Trod enc P w 0 (fun _ => true) true t v d p) : ∃ n, v = .int .i64 n ∧ In64 n := by
  obtain ⟨n, rfl, _, _, hwf⟩ := open_int ht hok h
  exact ⟨n, rfl, wf_in64 hwf⟩
theorem UW (ht : P.underlying e = some .string) : ∀ (n : Nat) (cs : List Value) (x : DataW H × List MemPlace), DataW.trod enc P w 0 (fun _ => true) true n e cs = some x → (x.1.weights P e).all (· ≤ reachBytes) = true → ∃ a : ByteArray, cs = [.string a] ∧ a.size ≤ reachBytes :=
  fun n cs x h hw => by
    obtain ⟨a, rfl, rfl, _⟩ := DataW.trod_string ht h
    refine ⟨a, rfl, ?_⟩
    have : a.data.toList.length = a.size := by rw [Array.length_toList]; rfl
    simpa [DataW.weights, this] using hw
end
end Go.Cf
namespace Go.Proofs.YtbkameioedmlkaaGreatDoor
open Go.RowKit Go.Cf
set_option maxRecDepth 10000
theorem el9 : Elem Tryz.prog 9 1 16 := Xz (z := .string .empty) (by kernel_rfl) rfl (by decide)
set_option maxHeartbeats 2000000 in
theorem Zd (w : World) (n : Nat) : Calls Tryz.prog 82 #[.int .u8 (n : Int)] w fun e w' => e = .returned (.bool (letterB n)) ∧ Below w.heap.size w w' := by
 refine Kz Tryz.func82 U Tryz.ntmps82 (leb U) ?_
 refine Jb [(0,.int _ _)] ⟨U,O⟩ fun σ => Jg fun N1 hN1 => Jk (Jd (Ji U) U U U (Ja (hN1 _ _ (Jb [(0,.int _ _)] ⟨U,O⟩ fun σ => Jg fun N2 hN2 => Jk (Jd (Jf U) U U U (Jd (Wj U U) U U U (Jd (Jn U) U U U ?_)))))))
 refine Kh (want := true) U U U U U U (fun hg5 => ?_) (fun hg5 => ?_)
 have hg5d := odt hg5
 refine Jd (Je (Jf U)) U U U (Js U U U U hg5 (Jd (Je (Zj U U)) U U U (Jd (Jo U hg5 U) U U U (Jd (Jn U) U U U ?_))))
 refine Kh (want := false) U U U U U U (fun hg9 => ?_) (fun hg9 => ?_)
 have hg9d := odf hg9
 refine Jd (Je (Jf U)) U U U (Js U U U U hg9 (Jd (Je (Wj U U)) U U U (Js U U U U hg9 (Jd (Je (Jn U)) U U U ?_))))
 refine Kh (want := true) U U U U U U (fun hg12 => ?_) (fun hg12 => ?_)
 have hg12d := odt hg12
 refine Jd (Je (Jf U)) U U U (Js U U U U hg12 (Jd (Je (Zj U U)) U U U (Js U U U U hg9 (Jd (Je (Jo U hg12 U)) U U U (Jd (Jp U hg9 U) U U U (Jd (Jn U) U U U ?_))))))
 refine Kh (want := false) U U U U U U (fun hg17 => ?_) (fun hg17 => ?_)
 have hg17d := odf hg17
 refine Jd (Je (Jf U)) U U U (Js U U U U hg17 (Jd (Je (Wj U U)) U U U (Js U U U U hg17 (Jd (Je (Jn U)) U U U ?_))))
 refine Kh (want := true) U U U U U U (fun hg20 => ?_) (fun hg20 => ?_)
 have hg20d := odt hg20
 refine Jd (Je (Jf U)) U U U (Js U U U U hg20 (Jd (Je (Zj U U)) U U U (Js U U U U hg17 (Jd (Je (Jo U hg20 U)) U U U (Jd (Jp U hg17 U) U U U (Jd (Jn U) U U U ?_))))))
 refine Kh (want := false) U U U U U U (fun hg25 => ?_) (fun hg25 => ?_)
 have hg25d := odf hg25
 refine Jd (Je (Jf U)) U U U (Js U U U U hg25 (Jd (Je (Mc U U)) U U U (Jd (Jp U hg25 U) U U U (Jd (Jn U) U U U ?_))))
 refine Kh (want := false) U U U U U U (fun hg29 => ?_) (fun hg29 => ?_)
 have hg29d := odf hg29
 refine Jd (Je (Jf U)) U U U (Js U U U U hg29 (Jd (Je (Mc U U)) U U U (Jd (Jp U hg29 U) U U U (Jd (Jn U) U U U ?_))))
 refine Kh (want := false) U U U U U U (fun hg33 => ?_) (fun hg33 => ?_)
 have hg33d := odf hg33
 refine Jd (Je (Jf U)) U U U (Js U U U U hg33 (Jd (Je (Mc U U)) U U U (Jd (Jp U hg33 U) U U U (Jd (Ji U) U U U (Ja (hN2 _ _ (Jb [(2,.bool _)] ⟨U,O⟩ fun σ => ?_)))))))
 refine Ke fun w1 hM => ?_
 refine ⟨_,res1 rfl (rt (v := .bool _) rfl),?_⟩
 first | (exfalso; omega) | exact ⟨by rw [show letterB n = true from decide_eq_true (by omega)],hM.low⟩ | exact ⟨by rw [show letterB n = decide ((n : Int) = 45) from decide_eq_decide.2 (by omega)],hM.low⟩
 have hg33d := odt hg33
 refine Jj U U U U hg33 U U (Jd (Jo U hg33 U) U U U (Jd (Ji U) U U U (Ja (hN2 _ _ (Jb [(2,.bool _)] ⟨U,O⟩ fun σ => ?_)))))
 refine Ke fun w1 hM => ?_
 refine ⟨_,res1 rfl (rt (v := .bool _) rfl),?_⟩
 first | (exfalso; omega) | exact ⟨by rw [show letterB n = true from decide_eq_true (by omega)],hM.low⟩ | exact ⟨by rw [show letterB n = decide ((n : Int) = 45) from decide_eq_decide.2 (by omega)],hM.low⟩
 have hg29d := odt hg29
 refine Jj U U U U hg29 U U (Jd (Jo U hg29 U) U U U (Jd (Jn U) U U U (Jj U U U U U U U (Jj U U U U U U U (Jd (Jo U U U) U U U (Jd (Ji U) U U U (Ja (hN2 _ _ ?_))))))))
 refine Jb [(2,.bool _)] ⟨U,O⟩ fun σ => ?_
 refine Ke fun w1 hM => ?_
 refine ⟨_,res1 rfl (rt (v := .bool _) rfl),?_⟩
 first | (exfalso; omega) | exact ⟨by rw [show letterB n = true from decide_eq_true (by omega)],hM.low⟩ | exact ⟨by rw [show letterB n = decide ((n : Int) = 45) from decide_eq_decide.2 (by omega)],hM.low⟩
 have hg25d := odt hg25
 refine Jj U U U U hg25 U U (Jd (Jo U hg25 U) U U U (Jd (Jn U) U U U (Jj U U U U U U U (Jj U U U U U U U (Jd (Jo U U U) U U U (Jd (Jn U) U U U (Jj U U U U U U U (Jj U U U U U U U ?_))))))))
 refine Jd (Jo U U U) U U U (Jd (Ji U) U U U (Ja (hN2 _ _ (Jb [(2,.bool _)] ⟨U,O⟩ fun σ => ?_))))
 refine Ke fun w1 hM => ?_
 refine ⟨_,res1 rfl (rt (v := .bool _) rfl),?_⟩
 first | (exfalso; omega) | exact ⟨by rw [show letterB n = true from decide_eq_true (by omega)],hM.low⟩ | exact ⟨by rw [show letterB n = decide ((n : Int) = 45) from decide_eq_decide.2 (by omega)],hM.low⟩
 have hg20d := odf hg20
 refine Jj U U U U hg20 U U (Js U U U U hg17 (Jd (Je (Jp U hg20 U)) U U U (Jd (Jp U hg17 U) U U U (Jd (Jn U) U U U (Js U U U U U (Jd (Je (Jf U)) U U U (Js U U U U U (Jd (Je (Mc U U)) U U U ?_))))))))
 refine Jd (Jp U U U) U U U (Jd (Jn U) U U U ?_)
 refine Kh (want := false) U U U U U U (fun hg29 => ?_) (fun hg29 => ?_)
 have hg29d := odf hg29
 refine Jd (Je (Jf U)) U U U (Js U U U U hg29 (Jd (Je (Mc U U)) U U U (Jd (Jp U hg29 U) U U U (Jd (Jn U) U U U ?_))))
 refine Kh (want := false) U U U U U U (fun hg33 => ?_) (fun hg33 => ?_)
 have hg33d := odf hg33
 refine Jd (Je (Jf U)) U U U (Js U U U U hg33 (Jd (Je (Mc U U)) U U U (Jd (Jp U hg33 U) U U U (Jd (Ji U) U U U (Ja (hN2 _ _ (Jb [(2,.bool _)] ⟨U,O⟩ fun σ => ?_)))))))
 refine Ke fun w1 hM => ?_
 refine ⟨_,res1 rfl (rt (v := .bool _) rfl),?_⟩
 first | (exfalso; omega) | exact ⟨by rw [show letterB n = true from decide_eq_true (by omega)],hM.low⟩ | exact ⟨by rw [show letterB n = decide ((n : Int) = 45) from decide_eq_decide.2 (by omega)],hM.low⟩
 have hg33d := odt hg33
 refine Jj U U U U hg33 U U (Jd (Jo U hg33 U) U U U (Jd (Ji U) U U U (Ja (hN2 _ _ (Jb [(2,.bool _)] ⟨U,O⟩ fun σ => ?_)))))
 refine Ke fun w1 hM => ?_
 refine ⟨_,res1 rfl (rt (v := .bool _) rfl),?_⟩
 first | (exfalso; omega) | exact ⟨by rw [show letterB n = true from decide_eq_true (by omega)],hM.low⟩ | exact ⟨by rw [show letterB n = decide ((n : Int) = 45) from decide_eq_decide.2 (by omega)],hM.low⟩
 have hg29d := odt hg29
 refine Jj U U U U hg29 U U (Jd (Jo U hg29 U) U U U (Jd (Jn U) U U U (Jj U U U U U U U (Jj U U U U U U U (Jd (Jo U U U) U U U (Jd (Ji U) U U U (Ja (hN2 _ _ ?_))))))))
 refine Jb [(2,.bool _)] ⟨U,O⟩ fun σ => ?_
 refine Ke fun w1 hM => ?_
 refine ⟨_,res1 rfl (rt (v := .bool _) rfl),?_⟩
 first | (exfalso; omega) | exact ⟨by rw [show letterB n = true from decide_eq_true (by omega)],hM.low⟩ | exact ⟨by rw [show letterB n = decide ((n : Int) = 45) from decide_eq_decide.2 (by omega)],hM.low⟩
 have hg17d := odt hg17
 refine Jj U U U U hg17 U U (Jj U U U U hg17 U U (Mf U U U U U U (Mf U U U U U U (Jj U U U U hg17 U U (Jd (Jo U hg17 U) U U U (Jd (Jn U) U U U (Jj U U U U U U U (Jj U U U U U U U ?_))))))))
 refine Jd (Jo U U U) U U U (Jd (Jn U) U U U (Jj U U U U U U U (Jj U U U U U U U (Jd (Jo U U U) U U U (Jd (Jn U) U U U (Jj U U U U U U U (Jj U U U U U U U (Jd (Jo U U U) U U U ?_))))))))
 refine Jd (Ji U) U U U (Ja (hN2 _ _ (Jb [(2,.bool _)] ⟨U,O⟩ fun σ => ?_)))
 refine Ke fun w1 hM => ?_
 refine ⟨_,res1 rfl (rt (v := .bool _) rfl),?_⟩
 first | (exfalso; omega) | exact ⟨by rw [show letterB n = true from decide_eq_true (by omega)],hM.low⟩ | exact ⟨by rw [show letterB n = decide ((n : Int) = 45) from decide_eq_decide.2 (by omega)],hM.low⟩
 have hg12d := odf hg12
 refine Jj U U U U hg12 U U (Js U U U U hg9 (Jd (Je (Jp U hg12 U)) U U U (Jd (Jp U hg9 U) U U U (Jd (Jn U) U U U (Js U U U U U (Jd (Je (Jf U)) U U U (Js U U U U U (Jd (Je (Wj U U)) U U U ?_))))))))
 refine Js U U U U U (Jd (Je (Jn U)) U U U ?_)
 refine Kh (want := true) U U U U U U (fun hg20 => ?_) (fun hg20 => ?_)
 have hg20d := odt hg20
 refine Jd (Je (Jf U)) U U U (Js U U U U hg20 (Jd (Je (Zj U U)) U U U (Js U U U U U (Jd (Je (Jo U hg20 U)) U U U (Jd (Jp U U U) U U U (Jd (Jn U) U U U ?_))))))
 refine Kh (want := false) U U U U U U (fun hg25 => ?_) (fun hg25 => ?_)
 have hg25d := odf hg25
 refine Jd (Je (Jf U)) U U U (Js U U U U hg25 (Jd (Je (Mc U U)) U U U (Jd (Jp U hg25 U) U U U (Jd (Jn U) U U U ?_))))
 refine Kh (want := false) U U U U U U (fun hg29 => ?_) (fun hg29 => ?_)
 have hg29d := odf hg29
 refine Jd (Je (Jf U)) U U U (Js U U U U hg29 (Jd (Je (Mc U U)) U U U (Jd (Jp U hg29 U) U U U (Jd (Jn U) U U U ?_))))
 refine Kh (want := false) U U U U U U (fun hg33 => ?_) (fun hg33 => ?_)
 have hg33d := odf hg33
 refine Jd (Je (Jf U)) U U U (Js U U U U hg33 (Jd (Je (Mc U U)) U U U (Jd (Jp U hg33 U) U U U (Jd (Ji U) U U U (Ja (hN2 _ _ (Jb [(2,.bool _)] ⟨U,O⟩ fun σ => ?_)))))))
 refine Ke fun w1 hM => ?_
 refine ⟨_,res1 rfl (rt (v := .bool _) rfl),?_⟩
 first | (exfalso; omega) | exact ⟨by rw [show letterB n = true from decide_eq_true (by omega)],hM.low⟩ | exact ⟨by rw [show letterB n = decide ((n : Int) = 45) from decide_eq_decide.2 (by omega)],hM.low⟩
 have hg33d := odt hg33
 refine Jj U U U U hg33 U U (Jd (Jo U hg33 U) U U U (Jd (Ji U) U U U (Ja (hN2 _ _ (Jb [(2,.bool _)] ⟨U,O⟩ fun σ => ?_)))))
 refine Ke fun w1 hM => ?_
 refine ⟨_,res1 rfl (rt (v := .bool _) rfl),?_⟩
 first | (exfalso; omega) | exact ⟨by rw [show letterB n = true from decide_eq_true (by omega)],hM.low⟩ | exact ⟨by rw [show letterB n = decide ((n : Int) = 45) from decide_eq_decide.2 (by omega)],hM.low⟩
 have hg29d := odt hg29
 refine Jj U U U U hg29 U U (Jd (Jo U hg29 U) U U U (Jd (Jn U) U U U (Jj U U U U U U U (Jj U U U U U U U (Jd (Jo U U U) U U U (Jd (Ji U) U U U (Ja (hN2 _ _ ?_))))))))
 refine Jb [(2,.bool _)] ⟨U,O⟩ fun σ => ?_
 refine Ke fun w1 hM => ?_
 refine ⟨_,res1 rfl (rt (v := .bool _) rfl),?_⟩
 first | (exfalso; omega) | exact ⟨by rw [show letterB n = true from decide_eq_true (by omega)],hM.low⟩ | exact ⟨by rw [show letterB n = decide ((n : Int) = 45) from decide_eq_decide.2 (by omega)],hM.low⟩
 have hg25d := odt hg25
 refine Jj U U U U hg25 U U (Jd (Jo U hg25 U) U U U (Jd (Jn U) U U U (Jj U U U U U U U (Jj U U U U U U U (Jd (Jo U U U) U U U (Jd (Jn U) U U U (Jj U U U U U U U (Jj U U U U U U U ?_))))))))
 refine Jd (Jo U U U) U U U (Jd (Ji U) U U U (Ja (hN2 _ _ (Jb [(2,.bool _)] ⟨U,O⟩ fun σ => ?_))))
 refine Ke fun w1 hM => ?_
 refine ⟨_,res1 rfl (rt (v := .bool _) rfl),?_⟩
 first | (exfalso; omega) | exact ⟨by rw [show letterB n = true from decide_eq_true (by omega)],hM.low⟩ | exact ⟨by rw [show letterB n = decide ((n : Int) = 45) from decide_eq_decide.2 (by omega)],hM.low⟩
 have hg20d := odf hg20
 refine Jj U U U U hg20 U U (Js U U U U U (Jd (Je (Jp U hg20 U)) U U U (Jd (Jp U U U) U U U (Jd (Jn U) U U U (Js U U U U U (Jd (Je (Jf U)) U U U (Js U U U U U (Jd (Je (Mc U U)) U U U ?_))))))))
 refine Jd (Jp U U U) U U U (Jd (Jn U) U U U ?_)
 refine Kh (want := false) U U U U U U (fun hg29 => ?_) (fun hg29 => ?_)
 have hg29d := odf hg29
 refine Jd (Je (Jf U)) U U U (Js U U U U hg29 (Jd (Je (Mc U U)) U U U (Jd (Jp U hg29 U) U U U (Jd (Jn U) U U U ?_))))
 refine Kh (want := false) U U U U U U (fun hg33 => ?_) (fun hg33 => ?_)
 have hg33d := odf hg33
 refine Jd (Je (Jf U)) U U U (Js U U U U hg33 (Jd (Je (Mc U U)) U U U (Jd (Jp U hg33 U) U U U (Jd (Ji U) U U U (Ja (hN2 _ _ (Jb [(2,.bool _)] ⟨U,O⟩ fun σ => ?_)))))))
 refine Ke fun w1 hM => ?_
 refine ⟨_,res1 rfl (rt (v := .bool _) rfl),?_⟩
 first | (exfalso; omega) | exact ⟨by rw [show letterB n = true from decide_eq_true (by omega)],hM.low⟩ | exact ⟨by rw [show letterB n = decide ((n : Int) = 45) from decide_eq_decide.2 (by omega)],hM.low⟩
 have hg33d := odt hg33
 refine Jj U U U U hg33 U U (Jd (Jo U hg33 U) U U U (Jd (Ji U) U U U (Ja (hN2 _ _ (Jb [(2,.bool _)] ⟨U,O⟩ fun σ => ?_)))))
 refine Ke fun w1 hM => ?_
 refine ⟨_,res1 rfl (rt (v := .bool _) rfl),?_⟩
 first | (exfalso; omega) | exact ⟨by rw [show letterB n = true from decide_eq_true (by omega)],hM.low⟩ | exact ⟨by rw [show letterB n = decide ((n : Int) = 45) from decide_eq_decide.2 (by omega)],hM.low⟩
 have hg29d := odt hg29
 refine Jj U U U U hg29 U U (Jd (Jo U hg29 U) U U U (Jd (Jn U) U U U (Jj U U U U U U U (Jj U U U U U U U (Jd (Jo U U U) U U U (Jd (Ji U) U U U (Ja (hN2 _ _ ?_))))))))
 refine Jb [(2,.bool _)] ⟨U,O⟩ fun σ => ?_
 refine Ke fun w1 hM => ?_
 refine ⟨_,res1 rfl (rt (v := .bool _) rfl),?_⟩
 first | (exfalso; omega) | exact ⟨by rw [show letterB n = true from decide_eq_true (by omega)],hM.low⟩ | exact ⟨by rw [show letterB n = decide ((n : Int) = 45) from decide_eq_decide.2 (by omega)],hM.low⟩
 have hg9d := odt hg9
 refine Jj U U U U hg9 U U (Jj U U U U hg9 U U (Mf U U U U U U (Mf U U U U U U (Jj U U U U hg9 U U (Jd (Jo U hg9 U) U U U (Jd (Jn U) U U U (Jj U U U U U U U (Jj U U U U U U U ?_))))))))
 refine Jj U U U U U U U (Mf U U U U U U (Mf U U U U U U (Jj U U U U U U U (Jd (Jo U U U) U U U (Jd (Jn U) U U U (Jj U U U U U U U (Jj U U U U U U U (Jd (Jo U U U) U U U ?_))))))))
 refine Jd (Jn U) U U U (Jj U U U U U U U (Jj U U U U U U U (Jd (Jo U U U) U U U (Jd (Jn U) U U U (Jj U U U U U U U (Jj U U U U U U U (Jd (Jo U U U) U U U (Jd (Ji U) U U U ?_))))))))
 refine Ja (hN2 _ _ (Jb [(2,.bool _)] ⟨U,O⟩ fun σ => ?_))
 refine Ke fun w1 hM => ?_
 refine ⟨_,res1 rfl (rt (v := .bool _) rfl),?_⟩
 first | (exfalso; omega) | exact ⟨by rw [show letterB n = true from decide_eq_true (by omega)],hM.low⟩ | exact ⟨by rw [show letterB n = decide ((n : Int) = 45) from decide_eq_decide.2 (by omega)],hM.low⟩
 have hg5d := odf hg5
 refine Jj U U U U hg5 U U (Jd (Jp U hg5 U) U U U (Jd (Jn U) U U U (Js U U U U U (Jd (Je (Jf U)) U U U (Js U U U U U (Jd (Je (Wj U U)) U U U (Js U U U U U (Jd (Je (Jn U)) U U U ?_))))))))
 refine Kh (want := true) U U U U U U (fun hg12 => ?_) (fun hg12 => ?_)
 have hg12d := odt hg12
 refine Jd (Je (Jf U)) U U U (Js U U U U hg12 (Jd (Je (Zj U U)) U U U (Js U U U U U (Jd (Je (Jo U hg12 U)) U U U (Jd (Jp U U U) U U U (Jd (Jn U) U U U ?_))))))
 refine Kh (want := false) U U U U U U (fun hg17 => ?_) (fun hg17 => ?_)
 have hg17d := odf hg17
 refine Jd (Je (Jf U)) U U U (Js U U U U hg17 (Jd (Je (Wj U U)) U U U (Js U U U U hg17 (Jd (Je (Jn U)) U U U ?_))))
 refine Kh (want := true) U U U U U U (fun hg20 => ?_) (fun hg20 => ?_)
 have hg20d := odt hg20
 refine Jd (Je (Jf U)) U U U (Js U U U U hg20 (Jd (Je (Zj U U)) U U U (Js U U U U hg17 (Jd (Je (Jo U hg20 U)) U U U (Jd (Jp U hg17 U) U U U (Jd (Jn U) U U U ?_))))))
 refine Kh (want := false) U U U U U U (fun hg25 => ?_) (fun hg25 => ?_)
 have hg25d := odf hg25
 refine Jd (Je (Jf U)) U U U (Js U U U U hg25 (Jd (Je (Mc U U)) U U U (Jd (Jp U hg25 U) U U U (Jd (Jn U) U U U ?_))))
 refine Kh (want := false) U U U U U U (fun hg29 => ?_) (fun hg29 => ?_)
 have hg29d := odf hg29
 refine Jd (Je (Jf U)) U U U (Js U U U U hg29 (Jd (Je (Mc U U)) U U U (Jd (Jp U hg29 U) U U U (Jd (Jn U) U U U ?_))))
 refine Kh (want := false) U U U U U U (fun hg33 => ?_) (fun hg33 => ?_)
 have hg33d := odf hg33
 refine Jd (Je (Jf U)) U U U (Js U U U U hg33 (Jd (Je (Mc U U)) U U U (Jd (Jp U hg33 U) U U U (Jd (Ji U) U U U (Ja (hN2 _ _ (Jb [(2,.bool _)] ⟨U,O⟩ fun σ => ?_)))))))
 refine Ke fun w1 hM => ?_
 refine ⟨_,res1 rfl (rt (v := .bool _) rfl),?_⟩
 first | (exfalso; omega) | exact ⟨by rw [show letterB n = true from decide_eq_true (by omega)],hM.low⟩ | exact ⟨by rw [show letterB n = decide ((n : Int) = 45) from decide_eq_decide.2 (by omega)],hM.low⟩
 have hg33d := odt hg33
 refine Jj U U U U hg33 U U (Jd (Jo U hg33 U) U U U (Jd (Ji U) U U U (Ja (hN2 _ _ (Jb [(2,.bool _)] ⟨U,O⟩ fun σ => ?_)))))
 refine Ke fun w1 hM => ?_
 refine ⟨_,res1 rfl (rt (v := .bool _) rfl),?_⟩
 first | (exfalso; omega) | exact ⟨by rw [show letterB n = true from decide_eq_true (by omega)],hM.low⟩ | exact ⟨by rw [show letterB n = decide ((n : Int) = 45) from decide_eq_decide.2 (by omega)],hM.low⟩
 have hg29d := odt hg29
 refine Jj U U U U hg29 U U (Jd (Jo U hg29 U) U U U (Jd (Jn U) U U U (Jj U U U U U U U (Jj U U U U U U U (Jd (Jo U U U) U U U (Jd (Ji U) U U U (Ja (hN2 _ _ ?_))))))))
 refine Jb [(2,.bool _)] ⟨U,O⟩ fun σ => ?_
 refine Ke fun w1 hM => ?_
 refine ⟨_,res1 rfl (rt (v := .bool _) rfl),?_⟩
 first | (exfalso; omega) | exact ⟨by rw [show letterB n = true from decide_eq_true (by omega)],hM.low⟩ | exact ⟨by rw [show letterB n = decide ((n : Int) = 45) from decide_eq_decide.2 (by omega)],hM.low⟩
 have hg25d := odt hg25
 refine Jj U U U U hg25 U U (Jd (Jo U hg25 U) U U U (Jd (Jn U) U U U (Jj U U U U U U U (Jj U U U U U U U (Jd (Jo U U U) U U U (Jd (Jn U) U U U (Jj U U U U U U U (Jj U U U U U U U ?_))))))))
 refine Jd (Jo U U U) U U U (Jd (Ji U) U U U (Ja (hN2 _ _ (Jb [(2,.bool _)] ⟨U,O⟩ fun σ => ?_))))
 refine Ke fun w1 hM => ?_
 refine ⟨_,res1 rfl (rt (v := .bool _) rfl),?_⟩
 first | (exfalso; omega) | exact ⟨by rw [show letterB n = true from decide_eq_true (by omega)],hM.low⟩ | exact ⟨by rw [show letterB n = decide ((n : Int) = 45) from decide_eq_decide.2 (by omega)],hM.low⟩
 have hg20d := odf hg20
 refine Jj U U U U hg20 U U (Js U U U U hg17 (Jd (Je (Jp U hg20 U)) U U U (Jd (Jp U hg17 U) U U U (Jd (Jn U) U U U (Js U U U U U (Jd (Je (Jf U)) U U U (Js U U U U U (Jd (Je (Mc U U)) U U U ?_))))))))
 refine Jd (Jp U U U) U U U (Jd (Jn U) U U U ?_)
 refine Kh (want := false) U U U U U U (fun hg29 => ?_) (fun hg29 => ?_)
 have hg29d := odf hg29
 refine Jd (Je (Jf U)) U U U (Js U U U U hg29 (Jd (Je (Mc U U)) U U U (Jd (Jp U hg29 U) U U U (Jd (Jn U) U U U ?_))))
 refine Kh (want := false) U U U U U U (fun hg33 => ?_) (fun hg33 => ?_)
 have hg33d := odf hg33
 refine Jd (Je (Jf U)) U U U (Js U U U U hg33 (Jd (Je (Mc U U)) U U U (Jd (Jp U hg33 U) U U U (Jd (Ji U) U U U (Ja (hN2 _ _ (Jb [(2,.bool _)] ⟨U,O⟩ fun σ => ?_)))))))
 refine Ke fun w1 hM => ?_
 refine ⟨_,res1 rfl (rt (v := .bool _) rfl),?_⟩
 first | (exfalso; omega) | exact ⟨by rw [show letterB n = true from decide_eq_true (by omega)],hM.low⟩ | exact ⟨by rw [show letterB n = decide ((n : Int) = 45) from decide_eq_decide.2 (by omega)],hM.low⟩
 have hg33d := odt hg33
 refine Jj U U U U hg33 U U (Jd (Jo U hg33 U) U U U (Jd (Ji U) U U U (Ja (hN2 _ _ (Jb [(2,.bool _)] ⟨U,O⟩ fun σ => ?_)))))
 refine Ke fun w1 hM => ?_
 refine ⟨_,res1 rfl (rt (v := .bool _) rfl),?_⟩
 first | (exfalso; omega) | exact ⟨by rw [show letterB n = true from decide_eq_true (by omega)],hM.low⟩ | exact ⟨by rw [show letterB n = decide ((n : Int) = 45) from decide_eq_decide.2 (by omega)],hM.low⟩
 have hg29d := odt hg29
 refine Jj U U U U hg29 U U (Jd (Jo U hg29 U) U U U (Jd (Jn U) U U U (Jj U U U U U U U (Jj U U U U U U U (Jd (Jo U U U) U U U (Jd (Ji U) U U U (Ja (hN2 _ _ ?_))))))))
 refine Jb [(2,.bool _)] ⟨U,O⟩ fun σ => ?_
 refine Ke fun w1 hM => ?_
 refine ⟨_,res1 rfl (rt (v := .bool _) rfl),?_⟩
 first | (exfalso; omega) | exact ⟨by rw [show letterB n = true from decide_eq_true (by omega)],hM.low⟩ | exact ⟨by rw [show letterB n = decide ((n : Int) = 45) from decide_eq_decide.2 (by omega)],hM.low⟩
 have hg17d := odt hg17
 refine Jj U U U U hg17 U U (Jj U U U U hg17 U U (Mf U U U U U U (Mf U U U U U U (Jj U U U U hg17 U U (Jd (Jo U hg17 U) U U U (Jd (Jn U) U U U (Jj U U U U U U U (Jj U U U U U U U ?_))))))))
 refine Jd (Jo U U U) U U U (Jd (Jn U) U U U (Jj U U U U U U U (Jj U U U U U U U (Jd (Jo U U U) U U U (Jd (Jn U) U U U (Jj U U U U U U U (Jj U U U U U U U (Jd (Jo U U U) U U U ?_))))))))
 refine Jd (Ji U) U U U (Ja (hN2 _ _ (Jb [(2,.bool _)] ⟨U,O⟩ fun σ => ?_)))
 refine Ke fun w1 hM => ?_
 refine ⟨_,res1 rfl (rt (v := .bool _) rfl),?_⟩
 first | (exfalso; omega) | exact ⟨by rw [show letterB n = true from decide_eq_true (by omega)],hM.low⟩ | exact ⟨by rw [show letterB n = decide ((n : Int) = 45) from decide_eq_decide.2 (by omega)],hM.low⟩
 have hg12d := odf hg12
 refine Jj U U U U hg12 U U (Js U U U U U (Jd (Je (Jp U hg12 U)) U U U (Jd (Jp U U U) U U U (Jd (Jn U) U U U (Js U U U U U (Jd (Je (Jf U)) U U U (Js U U U U U (Jd (Je (Wj U U)) U U U ?_))))))))
 refine Js U U U U U (Jd (Je (Jn U)) U U U ?_)
 refine Kh (want := true) U U U U U U (fun hg20 => ?_) (fun hg20 => ?_)
 have hg20d := odt hg20
 refine Jd (Je (Jf U)) U U U (Js U U U U hg20 (Jd (Je (Zj U U)) U U U (Js U U U U U (Jd (Je (Jo U hg20 U)) U U U (Jd (Jp U U U) U U U (Jd (Jn U) U U U ?_))))))
 refine Kh (want := false) U U U U U U (fun hg25 => ?_) (fun hg25 => ?_)
 have hg25d := odf hg25
 refine Jd (Je (Jf U)) U U U (Js U U U U hg25 (Jd (Je (Mc U U)) U U U (Jd (Jp U hg25 U) U U U (Jd (Jn U) U U U ?_))))
 refine Kh (want := false) U U U U U U (fun hg29 => ?_) (fun hg29 => ?_)
 have hg29d := odf hg29
 refine Jd (Je (Jf U)) U U U (Js U U U U hg29 (Jd (Je (Mc U U)) U U U (Jd (Jp U hg29 U) U U U (Jd (Jn U) U U U ?_))))
 refine Kh (want := false) U U U U U U (fun hg33 => ?_) (fun hg33 => ?_)
 have hg33d := odf hg33
 refine Jd (Je (Jf U)) U U U (Js U U U U hg33 (Jd (Je (Mc U U)) U U U (Jd (Jp U hg33 U) U U U (Jd (Ji U) U U U (Ja (hN2 _ _ (Jb [(2,.bool _)] ⟨U,O⟩ fun σ => ?_)))))))
 refine Ke fun w1 hM => ?_
 refine ⟨_,res1 rfl (rt (v := .bool _) rfl),?_⟩
 first | (exfalso; omega) | exact ⟨by rw [show letterB n = true from decide_eq_true (by omega)],hM.low⟩ | exact ⟨by rw [show letterB n = decide ((n : Int) = 45) from decide_eq_decide.2 (by omega)],hM.low⟩
 have hg33d := odt hg33
 refine Jj U U U U hg33 U U (Jd (Jo U hg33 U) U U U (Jd (Ji U) U U U (Ja (hN2 _ _ (Jb [(2,.bool _)] ⟨U,O⟩ fun σ => ?_)))))
 refine Ke fun w1 hM => ?_
 refine ⟨_,res1 rfl (rt (v := .bool _) rfl),?_⟩
 first | (exfalso; omega) | exact ⟨by rw [show letterB n = true from decide_eq_true (by omega)],hM.low⟩ | exact ⟨by rw [show letterB n = decide ((n : Int) = 45) from decide_eq_decide.2 (by omega)],hM.low⟩
 have hg29d := odt hg29
 refine Jj U U U U hg29 U U (Jd (Jo U hg29 U) U U U (Jd (Jn U) U U U (Jj U U U U U U U (Jj U U U U U U U (Jd (Jo U U U) U U U (Jd (Ji U) U U U (Ja (hN2 _ _ ?_))))))))
 refine Jb [(2,.bool _)] ⟨U,O⟩ fun σ => ?_
 refine Ke fun w1 hM => ?_
 refine ⟨_,res1 rfl (rt (v := .bool _) rfl),?_⟩
 first | (exfalso; omega) | exact ⟨by rw [show letterB n = true from decide_eq_true (by omega)],hM.low⟩ | exact ⟨by rw [show letterB n = decide ((n : Int) = 45) from decide_eq_decide.2 (by omega)],hM.low⟩
 have hg25d := odt hg25
 refine Jj U U U U hg25 U U (Jd (Jo U hg25 U) U U U (Jd (Jn U) U U U (Jj U U U U U U U (Jj U U U U U U U (Jd (Jo U U U) U U U (Jd (Jn U) U U U (Jj U U U U U U U (Jj U U U U U U U ?_))))))))
 refine Jd (Jo U U U) U U U (Jd (Ji U) U U U (Ja (hN2 _ _ (Jb [(2,.bool _)] ⟨U,O⟩ fun σ => ?_))))
 refine Ke fun w1 hM => ?_
 refine ⟨_,res1 rfl (rt (v := .bool _) rfl),?_⟩
 first | (exfalso; omega) | exact ⟨by rw [show letterB n = true from decide_eq_true (by omega)],hM.low⟩ | exact ⟨by rw [show letterB n = decide ((n : Int) = 45) from decide_eq_decide.2 (by omega)],hM.low⟩
 have hg20d := odf hg20
 refine Jj U U U U hg20 U U (Js U U U U U (Jd (Je (Jp U hg20 U)) U U U (Jd (Jp U U U) U U U (Jd (Jn U) U U U (Js U U U U U (Jd (Je (Jf U)) U U U (Js U U U U U (Jd (Je (Mc U U)) U U U ?_))))))))
 refine Jd (Jp U U U) U U U (Jd (Jn U) U U U ?_)
 refine Kh (want := false) U U U U U U (fun hg29 => ?_) (fun hg29 => ?_)
 have hg29d := odf hg29
 refine Jd (Je (Jf U)) U U U (Js U U U U hg29 (Jd (Je (Mc U U)) U U U (Jd (Jp U hg29 U) U U U (Jd (Jn U) U U U ?_))))
 refine Kh (want := false) U U U U U U (fun hg33 => ?_) (fun hg33 => ?_)
 have hg33d := odf hg33
 refine Jd (Je (Jf U)) U U U (Js U U U U hg33 (Jd (Je (Mc U U)) U U U (Jd (Jp U hg33 U) U U U (Jd (Ji U) U U U (Ja (hN2 _ _ (Jb [(2,.bool _)] ⟨U,O⟩ fun σ => ?_)))))))
 refine Ke fun w1 hM => ?_
 refine ⟨_,res1 rfl (rt (v := .bool _) rfl),?_⟩
 first | (exfalso; omega) | exact ⟨by rw [show letterB n = true from decide_eq_true (by omega)],hM.low⟩ | exact ⟨by rw [show letterB n = decide ((n : Int) = 45) from decide_eq_decide.2 (by omega)],hM.low⟩
 have hg33d := odt hg33
 refine Jj U U U U hg33 U U (Jd (Jo U hg33 U) U U U (Jd (Ji U) U U U (Ja (hN2 _ _ (Jb [(2,.bool _)] ⟨U,O⟩ fun σ => ?_)))))
 refine Ke fun w1 hM => ?_
 refine ⟨_,res1 rfl (rt (v := .bool _) rfl),?_⟩
 first | (exfalso; omega) | exact ⟨by rw [show letterB n = true from decide_eq_true (by omega)],hM.low⟩ | exact ⟨by rw [show letterB n = decide ((n : Int) = 45) from decide_eq_decide.2 (by omega)],hM.low⟩
 have hg29d := odt hg29
 refine Jj U U U U hg29 U U (Jd (Jo U hg29 U) U U U (Jd (Jn U) U U U (Jj U U U U U U U (Jj U U U U U U U (Jd (Jo U U U) U U U (Jd (Ji U) U U U (Ja (hN2 _ _ ?_))))))))
 refine Jb [(2,.bool _)] ⟨U,O⟩ fun σ => ?_
 refine Ke fun w1 hM => ?_
 refine ⟨_,res1 rfl (rt (v := .bool _) rfl),?_⟩
 first | (exfalso; omega) | exact ⟨by rw [show letterB n = true from decide_eq_true (by omega)],hM.low⟩ | exact ⟨by rw [show letterB n = decide ((n : Int) = 45) from decide_eq_decide.2 (by omega)],hM.low⟩
end Go.Proofs.YtbkameioedmlkaaGreatDoor
namespace Go.Proofs.YtbkameioedmlkaaGreatDoor
open Go.RowKit Go.Cf
set_option maxRecDepth 10000
set_option maxHeartbeats 2000000 in
theorem part_any (w : World) (s : ByteArray) (hs : s.size ≤ 4000000) : Calls Tryz.prog 120 #[.string s] w fun e w' => e = .returned (.int .i64 (partCode s : Nat)) ∧ Below w.heap.size w w' := by
 refine Kz Tryz.func120 U Tryz.ntmps120 (leb U) ?_
 refine Jb [(0,.string _)] ⟨U,O⟩ fun σ => Jg fun N1 hN1 => Jk (Jd (Jh U) U U U (Ja (hN1 _ _ (Jb [(0,.string _)] ⟨U,O⟩ fun σ => Jg fun N2 hN2 => Jg fun N3 hN3 => Jk (Jd (Ku U) U U U (Jd (Ur U U) U U U (Jd (Jn U) U U U ?_)))))))
 refine Kh (want := false) U U U U U U (fun hg7 => ?_) (fun hg7 => ?_)
 have hg7d := hg7
 refine Jd (Je (Ku U)) U U U (Js U U U U hg7 (Jd (Je (Ur U U)) U U U (Jd (Jp U hg7 U) U U U (Jd (Jn U) U U U ?_))))
 refine Kh (want := false) U U U U U U (fun hg11 => ?_) (fun hg11 => ?_)
 have hg11d := hg11
 refine Jd (Je (Ku U)) U U U (Js U U U U hg11 (Jd (Je (Ur U U)) U U U (Jd (Jp U hg11 U) U U U (Ja (hN3 _ _ (Jb [(0,.string _),(14,.bool _)] ⟨U,U,O⟩ fun σ => ?_))))))
 refine Jt (b := _) U (fun hc14 => ?_) (fun hc14 => ?_)
 refine Jg fun N4 hN4 => Jk (Jd (Jh U) U U U (Ja (hN4 _ _ (Jb [(2,.int _ _)] ⟨U,O⟩ fun σ => ?_))))
 refine Ke fun w1 hM => ?_
 refine ⟨_,res1 rfl (rt (v := .int _ _) rfl),?_⟩
 exact ⟨by rw [show partCode s = 12 by simp_all [partCode,dotty,strEq]]; rfl,hM.low⟩
 refine Jw (hN2 _ _ (Jb [(0,.string _)] ⟨U,O⟩ fun σ => Jg fun N5 hN5 => Jg fun N6 hN6 => Jk (Jd (Ku U) U U U (Jd (Qt Tryz.underlying9 U) U U U (Jd (Jf U) U U U (Ja (hN6 _ _ (Jb [(0,.string _),(16,.int _ _),(17,.int _ _)] ⟨U,U,U,O⟩ fun σ => ?_))))))))
 refine Kn ?_
 refine Mm [(17,.int _ _)] [(0,.string _),(16,.int _ _)] ⟨U,O⟩ ⟨U,U,O⟩ fun σ => ?_
 refine Ml (G := Nat) (fun k => k ≤ s.size ∧ (strEq s sStars = false → scanP s (s.size - k) = scanP s s.size)) (fun k => s.size - k) (fun k => [(17,.int .i64 (k : Int))]) (fun k => []) (0) ?h0 ⟨U,O⟩ ⟨U,U,O⟩ U ?round
 case h0 => exact ⟨Nat.zero_le _,fun _ => rfl⟩
 case round =>
  intro k hφ σ
  obtain ⟨hk,hz⟩ := hφ
  refine Jg fun N7 hN7 => Jk (Jd (Me U U) U U U (Ja (hN7 _ _ (Jb [(0,.string _),(16,.int _ _),(17,.int _ _),(18,.bool _)] ⟨U,U,U,U,O⟩ fun σ => Jg fun N8 hN8 => ?_))))
  refine Jt (b := _) U (fun hc18 => ?_) (fun hc18 => ?_)
  replace hc18 := odt hc18
  refine Jw (hN8 _ _ (Jb [(0,.string _),(16,.int _ _),(17,.int _ _)] ⟨U,U,U,O⟩ fun σ => Jg fun N9 hN9 => Kn (Jg fun N10 hN10 => Jk (Jd (Jf U) U U U (Jd (Jh U) U U U (Ja (hN10 _ _ (Jb [(0,.string _),(3,.int _ _),(16,.int _ _),(17,.int _ _)] ⟨U,U,U,U,O⟩ fun σ => ?_))))))))
  refine Jg fun N11 hN11 => Jk (Jd (Ku U) U U U (Jd (Jf U) U U U (Jd (Uu (m := k) Tryz.underlying9 U U (by omega) (by omega) (by omega)) U U U (Jd (Jh U) U U U (Ja (hN11 _ _ (Jb [(0,.string _),(3,.int _ _),(4,.int _ _),(16,.int _ _),(17,.int _ _)] ⟨U,U,U,U,U,O⟩ fun σ => Kn (Jg fun N12 hN12 => ?_))))))))
  refine Jk (Jd (Ku U) U U U (Jd (Ur U U) U U U (Jd (Ji U) U U U (Ja (hN12 _ _ (Jb [(0,.string _),(3,.int _ _),(4,.int _ _),(16,.int _ _),(17,.int _ _),(23,.bool _)] ⟨U,U,U,U,U,U,O⟩ fun σ => ?_))))))
  refine Jt (b := _) U (fun hc23 => ?_) (fun hc23 => ?_)
  refine Jw (hN9 _ _ (Jb [(0,.string _),(16,.int _ _),(17,.int _ _)] ⟨U,U,U,O⟩ fun σ => Jk (Jd (Kr U U ⟨by omega,by omega⟩) U U U (Jd (Jf U) U U U (Ja ?_)))))
  refine Kt (k + 1) (by omega) (⟨by omega,fun hss => by first | exact (Ui (by omega) (by simp [wildBad]; omega) (by first | (simp [charBad]; omega) | simp_all [charBad])).trans (hz hss) | (exfalso; simp_all [strEq]; done)⟩) ⟨U,O⟩ ⟨U,U,O⟩ ⟨_,U⟩
  refine Jg fun N13 hN13 => Jk (Jd (Jf U) U U U (Jd (Mc U U) U U U (Jd (Jn U) U U U ?_)))
  refine Kh (want := true) U U U U U U (fun hg29 => ?_) (fun hg29 => ?_)
  have hg29d := odt hg29
  refine Jd (Je (Jf U)) U U U (Js U U U U hg29 (Jd (Je (Mh U U)) U U U (Jd (Jo U hg29 U) U U U (Jd (Jn U) U U U ?_))))
  refine Kh (want := true) U U U U U U (fun hg33 => ?_) (fun hg33 => ?_)
  have hg33d := odt hg33
  refine Jd (Je (Ku U)) U U U (Js U U U U hg33 (Jd (Je (Jf U)) U U U (Js U U U U hg33 (Jd (Je (Zi U U ⟨by omega,by omega⟩)) U U U (Js U U U U hg33 (Jd (Je (Uu (m := k - 1) Tryz.underlying9 U U (by omega) (by omega) (by omega))) U U U (Js U U U U hg33 (Jd (Je (Mc U U)) U U U ?_))))))))
  refine Jd (Jo U hg33 U) U U U (Jd (Ji U) U U U (Ja (hN13 _ _ (Jb [(0,.string _),(4,.int _ _),(16,.int _ _),(17,.int _ _),(26,.bool _)] ⟨U,U,U,U,U,O⟩ fun σ => ?_))))
  refine Jt (b := _) U (fun hc26 => ?_) (fun hc26 => ?_)
  replace hc26 := odt hc26
  refine Jg fun N14 hN14 => Jk (Jd (Jh U) U U U (Ja (hN14 _ _ (Jb [(2,.int _ _)] ⟨U,O⟩ fun σ => ?_))))
  refine Ke fun w1 hM => ?_
  refine ⟨_,res1 rfl (rt (v := .int _ _) rfl),?_⟩
  have hss : strEq s sStars = false := by simp_all [strEq]
  exact ⟨by rw [show partCode s = 1 by rw [← scanP_wild (s := s) (k := k) (by omega) (by simp [wildBad]; omega),hz hss]; simp_all [partCode,dotty,strEq]]; rfl,hM.low⟩
  replace hc26 := odf hc26
  refine Jg fun N15 hN15 => Jk (Jd (Jf U) U U U (Jd (Uj U U) U U U (Jd (Jn U) U U U ?_)))
  refine Kh (want := true) U U U U U U (fun hg43 => ?_) (fun hg43 => ?_)
  have hg43d := odt hg43
  refine Jd (Je (Jf U)) U U U (Js U U U U hg43 (Jd (Je (Uj U U)) U U U (Jd (Jo U hg43 U) U U U (Jd (Jn U) U U U ?_))))
  refine Kh (want := true) U U U U U U (fun hg47 => ?_) (fun hg47 => ?_)
  have hg47d := odt hg47
  refine Jd (Je (Jf U)) U U U (Js U U U U hg47 ?_)
  refine Km (Kb (vs := [.int _ _]) Tryz.func82 U (by kernel_rfl) U) (fun w hM => Zd w _) U U U ?_
  refine Js U U U U hg47 (Jd (Je (Mp U)) U U U (Jd (Jo U hg47 U) U U U (Jd (Ji U) U U U (Ja (hN15 _ _ (Jb [(0,.string _),(16,.int _ _),(17,.int _ _),(40,.bool _)] ⟨U,U,U,U,O⟩ fun σ => ?_))))))
  refine Jt (b := _) U (fun hc40 => ?_) (fun hc40 => ?_)
  replace hc40 := Ub hc40
  refine Jg fun N16 hN16 => Jk (Jd (Jh U) U U U (Ja (hN16 _ _ (Jb [(2,.int _ _)] ⟨U,O⟩ fun σ => ?_))))
  refine Ke fun w1 hM => ?_
  refine ⟨_,res1 rfl (rt (v := .int _ _) rfl),?_⟩
  have hss : strEq s sStars = false := by simp_all [strEq]
  exact ⟨by rw [show partCode s = 12 by rw [← QU (s := s) (k := k) (by omega) (by simp [wildBad]; omega) (by first | (simp_all [charBad]; done) | (simp_all [charBad]; omega)),hz hss]; simp_all [partCode,dotty,strEq]]; rfl,hM.low⟩
  replace hc40 := Ue hc40
  refine Jw (hN9 _ _ (Jb [(0,.string _),(16,.int _ _),(17,.int _ _)] ⟨U,U,U,O⟩ fun σ => Jk (Jd (Kr U U ⟨by omega,by omega⟩) U U U (Jd (Jf U) U U U (Ja ?_)))))
  refine Kt (k + 1) (by omega) (⟨by omega,fun hss => by first | exact (Ui (by omega) (by simp [wildBad]; omega) (by first | (simp [charBad]; omega) | simp_all [charBad])).trans (hz hss) | (exfalso; simp_all [strEq]; done)⟩) ⟨U,O⟩ ⟨U,U,O⟩ ⟨_,U⟩
  have hg47d := Decidable.not_not.1 (odf hg47)
  refine Jj U U U U hg47 U U (Jj U U U U hg47 U U (Jd (Jp U hg47 U) U U U (Jd (Ji U) U U U (Ja (hN15 _ _ (Jb [(0,.string _),(16,.int _ _),(17,.int _ _),(40,.bool _)] ⟨U,U,U,U,O⟩ fun σ => ?_))))))
  refine Jt (b := _) U (fun hc40 => ?_) (fun hc40 => ?_)
  cases hc40
  refine Jw (hN9 _ _ (Jb [(0,.string _),(16,.int _ _),(17,.int _ _)] ⟨U,U,U,O⟩ fun σ => Jk (Jd (Kr U U ⟨by omega,by omega⟩) U U U (Jd (Jf U) U U U (Ja ?_)))))
  refine Kt (k + 1) (by omega) (⟨by omega,fun hss => by first | exact (Ui (by omega) (by simp [wildBad]; omega) (by first | (simp [charBad]; omega) | simp_all [charBad])).trans (hz hss) | (exfalso; simp_all [strEq]; done)⟩) ⟨U,O⟩ ⟨U,U,O⟩ ⟨_,U⟩
  have hg43d := Decidable.not_not.1 (odf hg43)
  refine Jj U U U U hg43 U U (Jd (Jp U hg43 U) U U U (Jd (Jn U) U U U (Jj U U U U U U U (Jj U U U U U U U (Jj U U U U U U U (Jd (Jp U U U) U U U (Jd (Ji U) U U U (Ja ?_))))))))
  refine hN15 _ _ (Jb [(0,.string _),(16,.int _ _),(17,.int _ _),(40,.bool _)] ⟨U,U,U,U,O⟩ fun σ => ?_)
  refine Jt (b := _) U (fun hc40 => ?_) (fun hc40 => ?_)
  cases hc40
  refine Jw (hN9 _ _ (Jb [(0,.string _),(16,.int _ _),(17,.int _ _)] ⟨U,U,U,O⟩ fun σ => Jk (Jd (Kr U U ⟨by omega,by omega⟩) U U U (Jd (Jf U) U U U (Ja ?_)))))
  refine Kt (k + 1) (by omega) (⟨by omega,fun hss => by first | exact (Ui (by omega) (by simp [wildBad]; omega) (by first | (simp [charBad]; omega) | simp_all [charBad])).trans (hz hss) | (exfalso; simp_all [strEq]; done)⟩) ⟨U,O⟩ ⟨U,U,O⟩ ⟨_,U⟩
  have hg33d := odf hg33
  refine Jj U U U U hg33 U U (Jj U U U U hg33 U U (Jj U U U U hg33 U U (Jj U U U U hg33 U U (Jd (Jp U hg33 U) U U U (Jd (Ji U) U U U (Ja (hN13 _ _ (Jb [(0,.string _),(4,.int _ _),(16,.int _ _),(17,.int _ _),(26,.bool _)] ⟨U,U,U,U,U,O⟩ fun σ => ?_))))))))
  refine Jt (b := _) U (fun hc26 => ?_) (fun hc26 => ?_)
  cases hc26
  refine Jg fun N17 hN17 => Jk (Jd (Jf U) U U U (Jd (Uj U U) U U U (Jd (Jn U) U U U ?_)))
  refine Kh (want := true) U U U U U U (fun hg43 => ?_) (fun hg43 => ?_)
  have hg43d := odt hg43
  refine Jd (Je (Jf U)) U U U (Js U U U U hg43 (Jd (Je (Uj U U)) U U U (Jd (Jo U hg43 U) U U U (Jd (Jn U) U U U ?_))))
  refine Kh (want := true) U U U U U U (fun hg47 => ?_) (fun hg47 => ?_)
  have hg47d := odt hg47
  refine Jd (Je (Jf U)) U U U (Js U U U U hg47 ?_)
  refine Km (Kb (vs := [.int _ _]) Tryz.func82 U (by kernel_rfl) U) (fun w hM => Zd w _) U U U ?_
  refine Js U U U U hg47 (Jd (Je (Mp U)) U U U (Jd (Jo U hg47 U) U U U (Jd (Ji U) U U U (Ja (hN17 _ _ (Jb [(0,.string _),(16,.int _ _),(17,.int _ _),(40,.bool _)] ⟨U,U,U,U,O⟩ fun σ => ?_))))))
  refine Jt (b := _) U (fun hc40 => ?_) (fun hc40 => ?_)
  replace hc40 := Ub hc40
  refine Jg fun N18 hN18 => Jk (Jd (Jh U) U U U (Ja (hN18 _ _ (Jb [(2,.int _ _)] ⟨U,O⟩ fun σ => ?_))))
  refine Ke fun w1 hM => ?_
  refine ⟨_,res1 rfl (rt (v := .int _ _) rfl),?_⟩
  have hss : strEq s sStars = false := by simp_all [strEq]
  exact ⟨by rw [show partCode s = 12 by rw [← QU (s := s) (k := k) (by omega) (by simp [wildBad]; omega) (by first | (simp_all [charBad]; done) | (simp_all [charBad]; omega)),hz hss]; simp_all [partCode,dotty,strEq]]; rfl,hM.low⟩
  replace hc40 := Ue hc40
  refine Jw (hN9 _ _ (Jb [(0,.string _),(16,.int _ _),(17,.int _ _)] ⟨U,U,U,O⟩ fun σ => Jk (Jd (Kr U U ⟨by omega,by omega⟩) U U U (Jd (Jf U) U U U (Ja ?_)))))
  refine Kt (k + 1) (by omega) (⟨by omega,fun hss => by first | exact (Ui (by omega) (by simp [wildBad]; omega) (by first | (simp [charBad]; omega) | simp_all [charBad])).trans (hz hss) | (exfalso; simp_all [strEq]; done)⟩) ⟨U,O⟩ ⟨U,U,O⟩ ⟨_,U⟩
  have hg47d := Decidable.not_not.1 (odf hg47)
  refine Jj U U U U hg47 U U (Jj U U U U hg47 U U (Jd (Jp U hg47 U) U U U (Jd (Ji U) U U U (Ja (hN17 _ _ (Jb [(0,.string _),(16,.int _ _),(17,.int _ _),(40,.bool _)] ⟨U,U,U,U,O⟩ fun σ => ?_))))))
  refine Jt (b := _) U (fun hc40 => ?_) (fun hc40 => ?_)
  cases hc40
  refine Jw (hN9 _ _ (Jb [(0,.string _),(16,.int _ _),(17,.int _ _)] ⟨U,U,U,O⟩ fun σ => Jk (Jd (Kr U U ⟨by omega,by omega⟩) U U U (Jd (Jf U) U U U (Ja ?_)))))
  refine Kt (k + 1) (by omega) (⟨by omega,fun hss => by first | exact (Ui (by omega) (by simp [wildBad]; omega) (by first | (simp [charBad]; omega) | simp_all [charBad])).trans (hz hss) | (exfalso; simp_all [strEq]; done)⟩) ⟨U,O⟩ ⟨U,U,O⟩ ⟨_,U⟩
  have hg43d := Decidable.not_not.1 (odf hg43)
  refine Jj U U U U hg43 U U (Jd (Jp U hg43 U) U U U (Jd (Jn U) U U U (Jj U U U U U U U (Jj U U U U U U U (Jj U U U U U U U (Jd (Jp U U U) U U U (Jd (Ji U) U U U (Ja ?_))))))))
  refine hN17 _ _ (Jb [(0,.string _),(16,.int _ _),(17,.int _ _),(40,.bool _)] ⟨U,U,U,U,O⟩ fun σ => ?_)
  refine Jt (b := _) U (fun hc40 => ?_) (fun hc40 => ?_)
  cases hc40
  refine Jw (hN9 _ _ (Jb [(0,.string _),(16,.int _ _),(17,.int _ _)] ⟨U,U,U,O⟩ fun σ => Jk (Jd (Kr U U ⟨by omega,by omega⟩) U U U (Jd (Jf U) U U U (Ja ?_)))))
  refine Kt (k + 1) (by omega) (⟨by omega,fun hss => by first | exact (Ui (by omega) (by simp [wildBad]; omega) (by first | (simp [charBad]; omega) | simp_all [charBad])).trans (hz hss) | (exfalso; simp_all [strEq]; done)⟩) ⟨U,O⟩ ⟨U,U,O⟩ ⟨_,U⟩
  have hg29d := odf hg29
  refine Jj U U U U hg29 U U (Jd (Jp U hg29 U) U U U (Jd (Jn U) U U U (Jj U U U U U U U (Jj U U U U U U U (Jj U U U U U U U (Jj U U U U U U U (Jj U U U U U U U (Jd (Jp U U U) U U U ?_))))))))
  refine Jd (Ji U) U U U (Ja (hN13 _ _ (Jb [(0,.string _),(4,.int _ _),(16,.int _ _),(17,.int _ _),(26,.bool _)] ⟨U,U,U,U,U,O⟩ fun σ => ?_)))
  refine Jt (b := _) U (fun hc26 => ?_) (fun hc26 => ?_)
  cases hc26
  refine Jg fun N19 hN19 => Jk (Jd (Jf U) U U U (Jd (Uj U U) U U U (Jd (Jn U) U U U ?_)))
  refine Kh (want := true) U U U U U U (fun hg43 => ?_) (fun hg43 => ?_)
  have hg43d := odt hg43
  refine Jd (Je (Jf U)) U U U (Js U U U U hg43 (Jd (Je (Uj U U)) U U U (Jd (Jo U hg43 U) U U U (Jd (Jn U) U U U ?_))))
  refine Kh (want := true) U U U U U U (fun hg47 => ?_) (fun hg47 => ?_)
  have hg47d := odt hg47
  refine Jd (Je (Jf U)) U U U (Js U U U U hg47 ?_)
  refine Km (Kb (vs := [.int _ _]) Tryz.func82 U (by kernel_rfl) U) (fun w hM => Zd w _) U U U ?_
  refine Js U U U U hg47 (Jd (Je (Mp U)) U U U (Jd (Jo U hg47 U) U U U (Jd (Ji U) U U U (Ja (hN19 _ _ (Jb [(0,.string _),(16,.int _ _),(17,.int _ _),(40,.bool _)] ⟨U,U,U,U,O⟩ fun σ => ?_))))))
  refine Jt (b := _) U (fun hc40 => ?_) (fun hc40 => ?_)
  replace hc40 := Ub hc40
  refine Jg fun N20 hN20 => Jk (Jd (Jh U) U U U (Ja (hN20 _ _ (Jb [(2,.int _ _)] ⟨U,O⟩ fun σ => ?_))))
  refine Ke fun w1 hM => ?_
  refine ⟨_,res1 rfl (rt (v := .int _ _) rfl),?_⟩
  have hss : strEq s sStars = false := by simp_all [strEq]
  exact ⟨by rw [show partCode s = 12 by rw [← QU (s := s) (k := k) (by omega) (by simp [wildBad]; omega) (by first | (simp_all [charBad]; done) | (simp_all [charBad]; omega)),hz hss]; simp_all [partCode,dotty,strEq]]; rfl,hM.low⟩
  replace hc40 := Ue hc40
  refine Jw (hN9 _ _ (Jb [(0,.string _),(16,.int _ _),(17,.int _ _)] ⟨U,U,U,O⟩ fun σ => Jk (Jd (Kr U U ⟨by omega,by omega⟩) U U U (Jd (Jf U) U U U (Ja ?_)))))
  refine Kt (k + 1) (by omega) (⟨by omega,fun hss => by first | exact (Ui (by omega) (by simp [wildBad]; omega) (by first | (simp [charBad]; omega) | simp_all [charBad])).trans (hz hss) | (exfalso; simp_all [strEq]; done)⟩) ⟨U,O⟩ ⟨U,U,O⟩ ⟨_,U⟩
  have hg47d := Decidable.not_not.1 (odf hg47)
  refine Jj U U U U hg47 U U (Jj U U U U hg47 U U (Jd (Jp U hg47 U) U U U (Jd (Ji U) U U U (Ja (hN19 _ _ (Jb [(0,.string _),(16,.int _ _),(17,.int _ _),(40,.bool _)] ⟨U,U,U,U,O⟩ fun σ => ?_))))))
  refine Jt (b := _) U (fun hc40 => ?_) (fun hc40 => ?_)
  cases hc40
  refine Jw (hN9 _ _ (Jb [(0,.string _),(16,.int _ _),(17,.int _ _)] ⟨U,U,U,O⟩ fun σ => Jk (Jd (Kr U U ⟨by omega,by omega⟩) U U U (Jd (Jf U) U U U (Ja ?_)))))
  refine Kt (k + 1) (by omega) (⟨by omega,fun hss => by first | exact (Ui (by omega) (by simp [wildBad]; omega) (by first | (simp [charBad]; omega) | simp_all [charBad])).trans (hz hss) | (exfalso; simp_all [strEq]; done)⟩) ⟨U,O⟩ ⟨U,U,O⟩ ⟨_,U⟩
  have hg43d := Decidable.not_not.1 (odf hg43)
  refine Jj U U U U hg43 U U (Jd (Jp U hg43 U) U U U (Jd (Jn U) U U U (Jj U U U U U U U (Jj U U U U U U U (Jj U U U U U U U (Jd (Jp U U U) U U U (Jd (Ji U) U U U (Ja ?_))))))))
  refine hN19 _ _ (Jb [(0,.string _),(16,.int _ _),(17,.int _ _),(40,.bool _)] ⟨U,U,U,U,O⟩ fun σ => ?_)
  refine Jt (b := _) U (fun hc40 => ?_) (fun hc40 => ?_)
  cases hc40
  refine Jw (hN9 _ _ (Jb [(0,.string _),(16,.int _ _),(17,.int _ _)] ⟨U,U,U,O⟩ fun σ => Jk (Jd (Kr U U ⟨by omega,by omega⟩) U U U (Jd (Jf U) U U U (Ja ?_)))))
  refine Kt (k + 1) (by omega) (⟨by omega,fun hss => by first | exact (Ui (by omega) (by simp [wildBad]; omega) (by first | (simp [charBad]; omega) | simp_all [charBad])).trans (hz hss) | (exfalso; simp_all [strEq]; done)⟩) ⟨U,O⟩ ⟨U,U,O⟩ ⟨_,U⟩
  replace hc18 := odf hc18
  refine Mx ?_
  refine hN5 _ _ (Jb [] trivial fun σ => Jg fun N21 hN21 => Jk (Jd (Jh U) U U U (Ja (hN21 _ _ (Jb [(2,.int _ _)] ⟨U,O⟩ fun σ => ?_)))))
  refine Ke fun w1 hM => ?_
  refine ⟨_,res1 rfl (rt (v := .int _ _) rfl),?_⟩
  have hke : k = s.size := by omega
  subst hke
  exact ⟨by rw [show partCode s = 0 by rw [scanP_end] at hz; by_cases hss : strEq s sStars = true; simp_all [partCode,dotty,strEq]; have hz2 := hz (by simpa using hss); simp_all [partCode,dotty,strEq]]; rfl,hM.low⟩
 have hg11d := hg11
 refine Jj U U U U hg11 U U (Jd (Jo U hg11 U) U U U (Ja (hN3 _ _ (Jb [(0,.string _),(14,.bool _)] ⟨U,U,O⟩ fun σ => ?_))))
 refine Jt (b := _) U (fun hc14 => ?_) (fun hc14 => ?_)
 refine Jg fun N22 hN22 => Jk (Jd (Jh U) U U U (Ja (hN22 _ _ (Jb [(2,.int _ _)] ⟨U,O⟩ fun σ => ?_))))
 refine Ke fun w1 hM => ?_
 refine ⟨_,res1 rfl (rt (v := .int _ _) rfl),?_⟩
 exact ⟨by rw [show partCode s = 12 by simp_all [partCode,dotty,strEq]]; rfl,hM.low⟩
 cases hc14
 have hg7d := hg7
 refine Jj U U U U hg7 U U (Jd (Jo U hg7 U) U U U (Jd (Jn U) U U U (Jj U U U U U U U (Jj U U U U U U U (Jd (Jo U U U) U U U (Ja (hN3 _ _ (Jb [(0,.string _),(14,.bool _)] ⟨U,U,O⟩ fun σ => ?_))))))))
 refine Jt (b := _) U (fun hc14 => ?_) (fun hc14 => ?_)
 refine Jg fun N23 hN23 => Jk (Jd (Jh U) U U U (Ja (hN23 _ _ (Jb [(2,.int _ _)] ⟨U,O⟩ fun σ => ?_))))
 refine Ke fun w1 hM => ?_
 refine ⟨_,res1 rfl (rt (v := .int _ _) rfl),?_⟩
 exact ⟨by rw [show partCode s = 12 by simp_all [partCode,dotty,strEq]]; rfl,hM.low⟩
 cases hc14
end Go.Proofs.YtbkameioedmlkaaGreatDoor
namespace Go.Proofs.YtbkameioedmlkaaGreatDoor
open Go.RowKit Go.Cf
set_option maxRecDepth 10000
set_option maxHeartbeats 1000000 in
theorem sIndexByte_any (w : World) (s : ByteArray) (c : Int) : Calls Tryz.prog 116 #[.string s, .int .u8 c] w fun e w' => e = .returned (.int .i64 (Lib.indexByte s.data.toList c.toNat.toUInt8)) ∧ Below w.heap.size w w' := by
 refine Kz Tryz.func116 U Tryz.ntmps116 (leb U) ?_
 refine Jb [(0,.string _),(1,.int _ _)] ⟨U,U,O⟩ fun σ => Jg fun N1 hN1 => Jk (Jd (Jh U) U U U (Ja (hN1 _ _ (Jb [(0,.string _),(1,.int _ _)] ⟨U,U,O⟩ fun σ => Jg fun N2 hN2 => Jk (Jd (Ku U) U U U (Jd (Jf U) U U U (Jd (y_extern (vs := [.string _,.int _ _]) Tryz.func142 (by kernel_rfl) (by kernel_rfl) (by kernel_rfl) (e := Extern.BytealgIndexByte.indexByte) (by kernel_rfl) U (fun w => Lib.run_indexByteString _ _ w)) U U U (Jd (Jh U) U U U ?_))))))))
 refine Ja (hN2 _ _ (Jb [(4,.int _ _)] ⟨U,O⟩ fun σ => ?_))
 refine Ke fun w1 hM => ?_
 refine ⟨_,res1 rfl (rt (v := .int _ _) rfl),?_⟩
 exact ⟨rfl,hM.low⟩
set_option maxHeartbeats 1000000 in
theorem sCount_any (w : World) (s : ByteArray) : Calls Tryz.prog 154 #[.string s, .string ⟨#[47]⟩] w fun e w' => e = .returned (.int .i64 (slashes s : Nat)) ∧ Below w.heap.size w w' := by
 refine Kz Tryz.func154 U Tryz.ntmps154 (leb U) ?_
 refine Jb [(0,.string _),(1,.string _)] ⟨U,U,O⟩ fun σ => Jg fun N1 hN1 => Jk (Jd (Jh U) U U U (Ja (hN1 _ _ (Jb [(0,.string _),(1,.string _)] ⟨U,U,O⟩ fun σ => Jg fun N2 hN2 => Jg fun N3 hN3 => Jk (Jd (Ku U) U U U (Jd (Qt Tryz.underlying9 U) U U U (Jd (Mc U U) U U U (Ja ?_))))))))
 refine hN3 _ _ (Jb [(0,.string _),(1,.string _),(9,.bool _)] ⟨U,U,U,O⟩ fun σ => ?_)
 refine Jt (b := _) U (fun hc9 => ?_) (fun hc9 => ?_)
 exact absurd hc9 (by decide)
 replace hc9 := odf hc9
 refine Jw (hN2 _ _ (Jb [(0,.string _),(1,.string _)] ⟨U,U,O⟩ fun σ => Jg fun N4 hN4 => Jg fun N5 hN5 => Jk (Jd (Ku U) U U U (Jd (Qt Tryz.underlying9 U) U U U (Jd (Mc U U) U U U (Ja (hN5 _ _ (Jb [(0,.string _),(1,.string _),(15,.bool _)] ⟨U,U,U,O⟩ fun σ => ?_))))))))
 refine Jt (b := _) U (fun hc15 => ?_) (fun hc15 => ?_)
 replace hc15 := odt hc15
 refine Jg fun N6 hN6 => Jk (Jd (Ku U) U U U (Jd (Ku U) U U U (Jd (Uu (m := 0) Tryz.underlying9 U U (by omega) (by omega) (by omega)) U U U (Jd (y_extern (vs := [.string _,.int _ _]) Tryz.func164 (by kernel_rfl) (by kernel_rfl) (by kernel_rfl) (e := Extern.BytealgCount.count) (by kernel_rfl) U (fun w => Lib.run_countString _ _ w)) U U U (Jd (Jh U) U U U (Ja (hN6 _ _ (Jb [(4,.int _ _)] ⟨U,O⟩ fun σ => ?_))))))))
 refine Ke fun w1 hM => ?_
 refine ⟨_,res1 rfl (rt (v := .int _ _) rfl),?_⟩
 exact ⟨rfl,hM.low⟩
 exact absurd hc15 (by decide)
set_option maxHeartbeats 1000000 in
theorem slIndex_any (w : World) (s : ByteArray) : Calls Tryz.prog 156 #[.string s, .string ⟨#[47]⟩] w fun e w' => e = .returned (.int .i64 (Lib.indexByte s.data.toList 47)) ∧ Below w.heap.size w w' := by
 refine Kz Tryz.func156 U Tryz.ntmps156 (leb U) ?_
 refine Jb [(0,.string _),(1,.string _)] ⟨U,U,O⟩ fun σ => Jg fun N1 hN1 => Jk (Jd (Jh U) U U U (Ja (hN1 _ _ (Jb [(0,.string _),(1,.string _)] ⟨U,U,O⟩ fun σ => Jg fun N2 hN2 => Jk (Jd (Ku U) U U U (Jd (Qt Tryz.underlying9 U) U U U (Jd (Jh U) U U U (Ja ?_))))))))
 refine hN2 _ _ (Jb [(0,.string _),(1,.string _),(5,.int _ _)] ⟨U,U,U,O⟩ fun σ => Jg fun N3 hN3 => Kn (Jg fun N4 hN4 => Jk (Jd (Jf U) U U U (Jd (Mc U U) U U U (Jd (Jn U) U U U ?_)))))
 refine Kh (want := false) U U U U U U (fun hg19 => ?_) (fun hg19 => ?_)
 have hg19d := odf hg19
 refine Jd (Je (Ku U)) U U U (Js U U U U hg19 (Jd (Je (Ku U)) U U U (Js U U U U hg19 (Jd (Je (Ur U U)) U U U (Jd (Jp U hg19 U) U U U (Jd (Ji U) U U U (Ja (hN4 _ _ ?_))))))))
 refine Jb [(0,.string _),(1,.string _),(5,.int _ _),(16,.bool _)] ⟨U,U,U,U,O⟩ fun σ => ?_
 refine Jt (b := _) U (fun hc16 => ?_) (fun hc16 => ?_)
 refine Jg fun N5 hN5 => Jk (Jd (Jh U) U U U (Ja (hN5 _ _ (Jb [(4,.int _ _)] ⟨U,O⟩ fun σ => ?_))))
 refine Ke fun w1 hM => ?_
 refine ⟨_,res1 rfl (rt (v := .int _ _) rfl),?_⟩
 exact ⟨by rw [← ByteArray.toList_eq,← show _ = s.toList by simpa using hc16]; rfl,hM.low⟩
 refine Jg fun N6 hN6 => Jk (Jd (Jf U) U U U (Jd (Mc U U) U U U (Jd (Ji U) U U U (Ja (hN6 _ _ (Jb [(0,.string _),(1,.string _),(5,.int _ _),(24,.bool _)] ⟨U,U,U,U,O⟩ fun σ => ?_))))))
 refine Jt (b := _) U (fun hc24 => ?_) (fun hc24 => ?_)
 replace hc24 := odt hc24
 refine Jg fun N7 hN7 => Jk (Jd (Ku U) U U U (Jd (Ku U) U U U (Jd (Uu (m := 0) Tryz.underlying9 U U (by omega) (by omega) (by omega)) U U U ?_)))
 refine Km (Kb (vs := [.string _,.int _ _]) Tryz.func116 U (by kernel_rfl) U) (fun w hM => sIndexByte_any w _ _) U U U ?_
 refine Jd (Jh U) U U U (Ja (hN7 _ _ (Jb [(4,.int _ _)] ⟨U,O⟩ fun σ => ?_)))
 refine Ke fun w1 hM => ?_
 refine ⟨_,res1 rfl (rt (v := .int _ _) rfl),?_⟩
 exact ⟨rfl,hM.low⟩
 exact absurd hc24 (by decide)
 exact absurd hg19 (by decide)
set_option maxHeartbeats 1000000 in
theorem sIndex_any (w : World) (s : ByteArray) : Calls Tryz.prog 137 #[.string s, .string ⟨#[47]⟩] w fun e w' => e = .returned (.int .i64 (Lib.indexByte s.data.toList 47)) ∧ Below w.heap.size w w' := by
 refine Kz Tryz.func137 U Tryz.ntmps137 (leb U) ?_
 refine Jb [(0,.string _),(1,.string _)] ⟨U,U,O⟩ fun σ => Jg fun N1 hN1 => Jk (Jd (Jh U) U U U (Ja (hN1 _ _ (Jb [(0,.string _),(1,.string _)] ⟨U,U,O⟩ fun σ => Jg fun N2 hN2 => Jk (Jd (Ku U) U U U (Jd (Ku U) U U U ?_))))))
 refine Km (Kb (vs := [.string _,.string _]) Tryz.func156 U (by kernel_rfl) U) (fun w hM => slIndex_any w _) U U U ?_
 refine Jd (Jh U) U U U (Ja (hN2 _ _ (Jb [(4,.int _ _)] ⟨U,O⟩ fun σ => ?_)))
 refine Ke fun w1 hM => ?_
 refine ⟨_,res1 rfl (rt (v := .int _ _) rfl),?_⟩
 exact ⟨rfl,hM.low⟩
end Go.Proofs.YtbkameioedmlkaaGreatDoor
namespace Go.Proofs.YtbkameioedmlkaaGreatDoor
open Go.RowKit Go.Cf
set_option maxRecDepth 10000
set_option maxHeartbeats 2000000 in
theorem genSplit_any (w : World) (s : ByteArray) (hs : s.size ≤ 4000000) : Calls Tryz.prog 134 #[.string s, .string ⟨#[47]⟩, .int .i64 0, .int .i64 (-1)] w fun e w' => ∃ v T', e = .returned v ∧ T' = [rowl strCells w.heap.size 9 1 v (cutS s)] ∧ Mem w T' w' := by
 have hsl := slashes_le s
 have h47 : (⟨#[47]⟩ : ByteArray).size = 1 := rfl
 refine Kz Tryz.func134 U Tryz.ntmps134 (leb U) ?_
 refine Jb [(0,.string _),(1,.string _),(2,.int _ _),(3,.int _ _)] ⟨U,U,U,U,O⟩ fun σ => Jg fun N1 hN1 => Jk (Jd (Kq U) U U U (Ja (hN1 _ _ (Jb [(0,.string _),(1,.string _),(2,.int _ _),(3,.int _ _)] ⟨U,U,U,U,O⟩ fun σ => Jg fun N2 hN2 => Jg fun N3 hN3 => Jk (Jd (Jf U) U U U (Jd (Mc U U) U U U (Ja (hN3 _ _ ?_))))))))
 refine Jb [(0,.string _),(1,.string _),(2,.int _ _),(3,.int _ _),(13,.bool _)] ⟨U,U,U,U,U,O⟩ fun σ => ?_
 refine Jt (b := _) U (fun hc13 => ?_) (fun hc13 => ?_)
 exact absurd hc13 (by decide)
 replace hc13 := odf hc13
 refine Jw (hN2 _ _ (Jb [(0,.string _),(1,.string _),(2,.int _ _),(3,.int _ _)] ⟨U,U,U,U,O⟩ fun σ => Jg fun N4 hN4 => Jg fun N5 hN5 => Jk (Jd (Ku U) U U U (Jd (Ur U U) U U U (Ja (hN5 _ _ (Jb [(0,.string _),(1,.string _),(2,.int _ _),(3,.int _ _),(15,.bool _)] ⟨U,U,U,U,U,O⟩ fun σ => ?_)))))))
 refine Jt (b := _) U (fun hc15 => ?_) (fun hc15 => ?_)
 simp at hc15
 refine Jw (hN4 _ _ (Jb [(0,.string _),(1,.string _),(2,.int _ _),(3,.int _ _)] ⟨U,U,U,U,O⟩ fun σ => Jg fun N6 hN6 => Jg fun N7 hN7 => Jk (Jd (Jf U) U U U (Jd (Me U U) U U U (Ja (hN7 _ _ (Jb [(0,.string _),(1,.string _),(2,.int _ _),(3,.int _ _),(20,.bool _)] ⟨U,U,U,U,U,O⟩ fun σ => ?_)))))))
 refine Jt (b := _) U (fun hc20 => ?_) (fun hc20 => ?_)
 replace hc20 := odt hc20
 refine Jk (Jd (Ku U) U U U (Jd (Ku U) U U U ?_))
 refine Km (Kb (vs := [.string _,.string _]) Tryz.func154 U (by kernel_rfl) U) (fun w hM => sCount_any w _) U U U ?_
 refine Jd (Kr U U ⟨by omega,by omega⟩) U U U (Jd (Jh U) U U U (Ja (hN6 _ _ (Jb [(0,.string _),(1,.string _),(2,.int _ _),(3,.int _ _)] ⟨U,U,U,U,O⟩ fun σ => Jg fun N8 hN8 => Jk (Jd (Jf U) U U U (Jd (Ku U) U U U (Jd (Qt Tryz.underlying9 U) U U U (Jd (Kr U U ⟨by omega,by omega⟩) U U U ?_))))))))
 refine Jd (y_min_l U U (show ((slashes s : Nat) : Int) + 1 ≤ (s.size : Int) + 1 by omega)) U U U (Jd (Jh U) U U U (Ja (hN8 _ _ (Jb [(0,.string _),(1,.string _),(2,.int _ _),(3,.int _ _)] ⟨U,U,U,U,O⟩ fun σ => Jg fun N9 hN9 => Jk (Jd (Jf U) U U U ?_)))))
 refine Zy (f := strCells) (bytes := 16) (z := .string .empty) (ByteArray.empty) Tryz.underlying22 (by kernel_rfl) U U U (k := slashes s + 1) U U (by omega) (by simp [maxLen]; omega) U (fun b31 hb31 => ?_)
 refine Jd (Kx (v := .slice (some _) _ _) U) U U U (Ja (hN9 _ _ (gT [rowl _ _ _ _ _ _] U (Jb [(0,.string _),(1,.string _),(2,.int _ _),(3,.int _ _),(9,.slice (some _) _ _)] ⟨U,U,U,U,U,O⟩ fun σ => Jg fun N10 hN10 => Jk (Jd (Jf U) U U U (Jd (Zi U U ⟨by omega,by omega⟩) U U U (Jd (Jh U) U U U (Ja ?_))))))))
 refine hN10 _ _ (Jb [(0,.string _),(1,.string _),(2,.int _ _),(3,.int _ _),(9,.slice (some _) _ _)] ⟨U,U,U,U,U,O⟩ fun σ => Jg fun N11 hN11 => Jk (Jd (Jh U) U U U (Ja (hN11 _ _ (Jb [(0,.string _),(1,.string _),(2,.int _ _),(3,.int _ _),(9,.slice (some _) _ _),(10,.int _ _)] ⟨U,U,U,U,U,U,O⟩ fun σ => Jg fun N12 hN12 => Kn ?_)))))
 refine Mm [(0,.string _),(10,.int _ _)] [(1,.string _),(2,.int _ _),(3,.int _ _),(9,.slice (some _) _ _)] ⟨U,U,O⟩ ⟨U,U,U,U,O⟩ fun σ => ?_
 refine Ml (G := Nat × ByteArray × List ByteArray) (fun (i,sc,pre) => i = pre.length ∧ pre ++ cutS sc = cutS s ∧ slashes sc + pre.length = slashes s ∧ sc.size ≤ s.size) (fun (i,sc,pre) => slashes s - pre.length) (fun (i,sc,pre) => [(0,.string sc),(10,.int .i64 (i : Int))]) (fun (i,sc,pre) => [(0,rowl strCells w.heap.size 9 1 (.slice (some ⟨b31,0,none⟩) (slashes s + 1) (slashes s + 1)) (pre ++ List.replicate (slashes s + 1 - pre.length) ByteArray.empty))]) ((0,s,[])) ?h0 ⟨U,U,O⟩ ⟨U,U,U,U,O⟩ U ?round
 case h0 => exact ⟨rfl,rfl,rfl,Nat.le_refl _⟩
 case round =>
  rintro ⟨i,sc,pre⟩ hφ σ
  obtain ⟨hi,hp1,hp2,hp3⟩ := hφ
  refine gT [rowl _ _ _ _ _ _] U (Jg fun N13 hN13 => Jg fun N14 hN14 => Jk (Jd (Jf U) U U U (Jd (Jf U) U U U (Jd (Me U U) U U U (Ja (hN14 _ _ (Jb [(0,.string _),(1,.string _),(2,.int _ _),(3,.int _ _),(9,.slice (some _) _ _),(10,.int _ _),(36,.bool _)] ⟨U,U,U,U,U,U,U,O⟩ fun σ => ?_)))))))
  refine Jt (b := _) U (fun hc36 => ?_) (fun hc36 => ?_)
  replace hc36 := odt hc36
  obtain ⟨m,hm1,hm2,hm3,hm4⟩ := idx_hit (s := sc) (by have h0 : ((i : Nat) : Int) < ((slashes s : Nat) : Int) + 1 - 1 := hc36; omega)
  refine Jw (hN13 _ _ (Jb [(0,.string _),(1,.string _),(2,.int _ _),(3,.int _ _),(9,.slice (some _) _ _),(10,.int _ _)] ⟨U,U,U,U,U,U,O⟩ fun σ => Kn (Jg fun N15 hN15 => Jk (Jd (Ku U) U U U (Jd (Ku U) U U U ?_)))))
  refine Km (Kb (vs := [.string _,.string _]) Tryz.func137 U (by kernel_rfl) U) (fun w hM => sIndex_any w _) U U U ?_
  refine Jd (Jh U) U U U (Ja (hN15 _ _ (Jb [(0,.string _),(1,.string _),(2,.int _ _),(3,.int _ _),(9,.slice (some _) _ _),(10,.int _ _),(11,.int _ _)] ⟨U,U,U,U,U,U,U,O⟩ fun σ => Jg fun N16 hN16 => Jg fun N17 hN17 => Jk (Jd (Jf U) U U U (Jd (Me U U) U U U (Ja (hN17 _ _ (Jb [(0,.string _),(1,.string _),(2,.int _ _),(3,.int _ _),(9,.slice (some _) _ _),(10,.int _ _),(11,.int _ _),(41,.bool _)] ⟨U,U,U,U,U,U,U,U,O⟩ fun σ => ?_))))))))
  refine Jt (b := _) U (fun hc41 => ?_) (fun hc41 => ?_)
  rw [hm1] at hc41; exact absurd hc41 (by simp)
  replace hc41 := odf hc41
  refine Jw (hN16 _ _ (Jb [(0,.string _),(1,.string _),(2,.int _ _),(3,.int _ _),(9,.slice (some _) _ _),(10,.int _ _),(11,.int _ _)] ⟨U,U,U,U,U,U,U,O⟩ fun σ => Jg fun N18 hN18 => Jk (Jd (Ju (v := .slice (some _) _ _) U) U U U (Jd (Jf U) U U U (Jd (Ku U) U U U (Jd (Jf U) U U U (Jd (Jf U) U U U (Jd (Kr U U ⟨by omega,by omega⟩) U U U ?_))))))))
  refine Jd (MQ Tryz.underlying9 U U (by omega) (by omega)) U U U (Jd (Jz (m := i) Tryz.underlying22 Tryz.sizeOf9 U U (by omega) (by omega) (by omega)) U U U ?_)
  refine Mk 0 (f := strCells) (l := pre ++ List.replicate (slashes s + 1 - pre.length) ByteArray.empty) (k := i) (o := 0) (v := .string _) (a := ByteArray.empty) (a' := sc.extract 0 m) (fun _ => U) U U U Tryz.sizeOf9 U U U U (by simp; omega) (by rw [hi,List.getElem?_append_right (Nat.le_refl _),Nat.sub_self,List.getElem?_replicate,if_pos (by omega)]) (leb U) (by rw [hm1]; rfl) U ?_
  refine Ja (hN18 _ _ (gT [rowl _ _ _ _ _ _] U (Jb [(0,.string _),(1,.string _),(2,.int _ _),(3,.int _ _),(9,.slice (some _) _ _),(10,.int _ _),(11,.int _ _)] ⟨U,U,U,U,U,U,U,O⟩ fun σ => Jg fun N19 hN19 => Jk (Jd (Ku U) U U U (Jd (Jf U) U U U (Jd (Ku U) U U U (Jd (Qt Tryz.underlying9 U) U U U (Jd (Kr U U ⟨by omega,by omega⟩) U U U ?_))))))))
  refine Jd (MM Tryz.underlying9 U U (by omega) (by omega)) U U U (Jd (Ul U) U U U (Ja (hN19 _ _ (Jb [(0,.string _),(1,.string _),(2,.int _ _),(3,.int _ _),(9,.slice (some _) _ _),(10,.int _ _)] ⟨U,U,U,U,U,U,O⟩ fun σ => Jk (Jd (Jf U) U U U (Jd (Kr U U ⟨by omega,by omega⟩) U U U (Jd (Jh U) U U U (Ja ?_))))))))
  rw [show (pre ++ List.replicate (slashes s + 1 - pre.length) ByteArray.empty).set i (sc.extract 0 m) = (pre ++ [sc.extract 0 m]) ++ List.replicate (slashes s + 1 - (pre ++ [sc.extract 0 m]).length) ByteArray.empty from by rw [hi]; exact set_pre (by omega)]
  refine Kt ((i + 1,sc.extract (Lib.indexByte sc.data.toList 47 + ((⟨#[47]⟩ : ByteArray).size : Int)).toNat sc.size,pre ++ [sc.extract 0 m])) (by show slashes s - (pre ++ [sc.extract 0 m]).length < slashes s - pre.length; simp; omega) (by rw [show (Lib.indexByte sc.data.toList 47 + ((⟨#[47]⟩ : ByteArray).size : Int)).toNat = m + 1 by omega]; exact ⟨by simp [hi],by rw [← hp1,hm3]; simp,by simp; omega,by simp; omega⟩) ⟨U,U,O⟩ ⟨U,U,U,U,O⟩ ⟨_,U⟩
  replace hc36 := odf hc36
  have hpl : pre.length = slashes s := by have h0 : ¬ ((i : Nat) : Int) < ((slashes s : Nat) : Int) + 1 - 1 := hc36; omega
  refine Mx ?_
  refine hN12 _ _ (Jb [(0,.string _),(9,.slice (some _) _ _),(10,.int _ _)] ⟨U,U,U,O⟩ fun σ => Jg fun N20 hN20 => Jk (Jd (Ju (v := .slice (some _) _ _) U) U U U (Jd (Jf U) U U U (Jd (Ku U) U U U (Jd (Jz (m := i) Tryz.underlying22 Tryz.sizeOf9 U U (by omega) (by omega) (by omega)) U U U ?_)))))
  refine Mk 0 (f := strCells) (l := pre ++ List.replicate (slashes s + 1 - pre.length) ByteArray.empty) (k := i) (o := 0) (v := .string _) (a := ByteArray.empty) (a' := sc) (fun _ => U) U U U Tryz.sizeOf9 U U U U (by simp; omega) (by rw [hi,List.getElem?_append_right (Nat.le_refl _),Nat.sub_self,List.getElem?_replicate,if_pos (by omega)]) (leb U) U U ?_
  refine Ja (hN20 _ _ (gT [rowl _ _ _ _ _ _] U (Jb [(9,.slice (some _) _ _),(10,.int _ _)] ⟨U,U,O⟩ fun σ => Jg fun N21 hN21 => Jk (Jd (Ju (v := .slice (some _) _ _) U) U U U (Jd (Jf U) U U U (Jd (Kr U U ⟨by omega,by omega⟩) U U U (Jd (y_slice_hi Tryz.underlying22 Tryz.sizeOf9 U U (by omega) (by omega)) U U U (Jd (Kq U) U U U ?_))))))))
  refine Ja (hN21 _ _ (Jb [(8,.slice _ _ _)] ⟨U,O⟩ fun σ => ?_))
  refine Ke fun w1 hM => ?_
  refine ⟨_,res1 rfl (rt (v := .slice _ _ _) rfl),?_⟩
  have hl : (pre ++ List.replicate (slashes s + 1 - pre.length) ByteArray.empty).set i sc = cutS s := by rw [hi,set_pre (by omega),← hp1,(Zw (s := sc) (by omega)).2,show slashes s + 1 - (pre ++ [sc]).length = 0 by simp; omega]; simp
  rw [hl] at hM
  have hi1 : i = slashes s := by omega
  subst hi1
  exact ⟨_,_,rfl,rfl,hM⟩
 exact absurd hc20 (by decide)
set_option maxHeartbeats 1000000 in
theorem split_any (w : World) (s : ByteArray) (hs : s.size ≤ 4000000) : Calls Tryz.prog 108 #[.string s, .string ⟨#[47]⟩] w fun e w' => ∃ v T', e = .returned v ∧ T' = [rowl strCells w.heap.size 9 1 v (cutS s)] ∧ Mem w T' w' := by
 refine Kz Tryz.func108 U Tryz.ntmps108 (leb U) ?_
 refine Jb [(0,.string _),(1,.string _)] ⟨U,U,O⟩ fun σ => Jg fun N1 hN1 => Jk (Jd (Kq U) U U U (Ja (hN1 _ _ (Jb [(0,.string _),(1,.string _)] ⟨U,U,O⟩ fun σ => Jg fun N2 hN2 => Jk (Jd (Ku U) U U U (Jd (Ku U) U U U ?_))))))
 refine My (fun v T' => ∃ lo,w.heap.size ≤ lo ∧ T' = [rowl strCells lo 9 1 v (cutS s)]) (Kb (vs := [.string _,.string _,_,_]) Tryz.func134 U (by kernel_rfl) U) (fun w hM => (genSplit_any w s hs).mono fun _ _ ⟨v,T1,h1,h2,h3⟩ => ⟨v,T1,h1,⟨_,hM.low.size,h2⟩,h3⟩) U U U ?_
 rintro v7 _ ⟨lo7,hlo7,rfl⟩
 refine Ky (fun w hM => Mz (hM.ok _ (List.mem_of_getElem? (i := 0) U))) ?_
 rintro ⟨A7,c7,rfl,hc7,hm7,hn7⟩
 refine Jd (Kx (v := .slice A7 _ c7) U) U U U (Ja (hN2 _ _ (gT [rowl _ _ _ _ _ _] U (Jb [(4,.slice A7 _ c7)] ⟨U,O⟩ fun σ => ?_))))
 refine Ke fun w1 hM => ?_
 refine ⟨_,res1 rfl (rt (v := .slice A7 _ c7) rfl),?_⟩
 exact ⟨_,_,rfl,rfl,Wg 0 rfl hlo7 _ hM⟩
end Go.Proofs.YtbkameioedmlkaaGreatDoor
namespace Go.Proofs.YtbkameioedmlkaaGreatDoor
open Go.RowKit Go.Cf
set_option maxRecDepth 10000
set_option maxHeartbeats 2000000 in
theorem Zk (s : ByteArray) (hs : s.size ≤ 4000000) (b1 b2 b3 : Nat) : Iters Tryz.prog 135 [.pointer (some ⟨b1, 0, none⟩), .pointer (some ⟨b2, 0, none⟩), .pointer (some ⟨b3, 0, none⟩)] (fun x : ByteArray => [.string x]) (cutS s) [box b1 (.cells #[.string ⟨#[47]⟩] 9), box b2 (.cells #[.string s] 9), box b3 (.cells #[.int .i64 0] 3)] := by
 intro w ι W l J Jx hM0 hY
 have h47 : (⟨#[47]⟩ : ByteArray).size = 1 := rfl
 refine gcallsI Tryz.func135 U Tryz.ntmps135 (leb U) hM0 ?_
 refine Jb [(0,.func _ _ _),(1,_),(2,_),(3,_)] ⟨U,U,U,U,O⟩ fun σ => Jg fun N1 hN1 => Jg fun N2 hN2 => Jk (Jd (Jq Tryz.isAgg9 U (Jm 1 U U)) U U U (Jd (Qt Tryz.underlying9 U) U U U (Jd (Mc U U) U U U (Ja (hN2 _ _ (Jb [(0,.func _ _ _),(1,_),(2,_),(3,_),(11,.bool _)] ⟨U,U,U,U,U,O⟩ fun σ => ?_))))))
 refine Jt (b := _) U (fun hc11 => ?_) (fun hc11 => ?_)
 exact absurd hc11 (by decide)
 replace hc11 := odf hc11
 refine Jw (hN1 _ _ (Jb [(0,.func _ _ _),(1,_),(2,_),(3,_)] ⟨U,U,U,U,O⟩ fun σ => Jg fun N3 hN3 => Kn ?_))
 refine Mm [] [(0,.func _ _ _),(1,_),(2,_),(3,_)] trivial ⟨U,U,U,U,O⟩ fun σ => ?_
 refine Ml (G := Nat × ByteArray) (fun (k,sc) => (cutS s).drop k = cutS sc ∧ k + slashes sc = slashes s ∧ sc.size ≤ s.size) (fun (k,sc) => slashes sc) (fun (k,sc) => []) (fun (k,sc) => [(0,J k),(2,box b2 (.cells #[.string sc] 9))]) ((0,s)) ?h0 trivial ⟨U,U,U,U,O⟩ U ?round
 case h0 => exact ⟨rfl,by simp,Nat.le_refl _⟩
 case round =>
  rintro ⟨k,sc⟩ hφ σ
  obtain ⟨hk1,hk2,hk3⟩ := hφ
  refine gT [_,box b1 _,box _ _,box b3 _] U (Kn (Jg fun N4 hN4 => Jk (Jd (Jq Tryz.isAgg9 U (Jm 2 U U)) U U U (Jd (Jq Tryz.isAgg9 U (Jm 1 U U)) U U U ?_))))
  refine Km (Kb (vs := [.string _,.string _]) Tryz.func137 U (by kernel_rfl) U) (fun w hM => sIndex_any w _) U U U ?_
  refine Jd (Jh U) U U U (Ja (hN4 _ _ (Jb [(0,.func _ _ _),(1,_),(2,_),(3,_),(7,.int _ _)] ⟨U,U,U,U,U,O⟩ fun σ => Jg fun N5 hN5 => Jg fun N6 hN6 => Jk (Jd (Jf U) U U U (Jd (Me U U) U U U (Ja (hN6 _ _ (Jb [(0,.func _ _ _),(1,_),(2,_),(3,_),(7,.int _ _),(33,.bool _)] ⟨U,U,U,U,U,U,O⟩ fun σ => ?_))))))))
  refine Jt (b := _) U (fun hc33 => ?_) (fun hc33 => ?_)
  replace hc33 := odt hc33
  have hs0 : slashes sc = 0 := by
    rcases Nat.eq_zero_or_pos (slashes sc) with h0 | h0
    · exact h0
    · obtain ⟨m,hm1,_⟩ := idx_hit h0; omega
  refine Mx ?_
  refine hN3 _ _ (Jb [(0,.func _ _ _),(2,_)] ⟨U,U,O⟩ fun σ => Jk (Jd (Ju (v := .func _ _ _) U) U U U (Jd (Jq Tryz.isAgg9 U (Jm 2 U U)) U U U ?_)))
  refine gop_yield (l := l) (k := k) (J := J) (Jx := Jx) (vs := [.string _]) U U U (fun r W1 hM1 => hY k sc r W1 (Xj (hk1.trans (Zw hs0).2)).1 hM1) U (fun bY51 gY51 hY51 => ?_)
  refine Ja ?_
  intro w1 hM
  refine ⟨_,res0 rfl,?_⟩
  cases bY51 with
  | false =>
    obtain ⟨iY,rfl⟩ : ∃ i,gY51 = Jx k i := hY51
    exact ⟨⟨_,rfl⟩,.inr ⟨k,iY,(List.getElem?_eq_some_iff.1 (Xj (hk1.trans (Zw hs0).2)).1).1,hM.sub (List.singleton_sublist.2 (by simp))⟩⟩
  | true =>
    obtain rfl : gY51 = J (k + 1) := hY51
    exact ⟨⟨_,rfl⟩,.inl (by have h1 := Xj (hk1.trans (Zw hs0).2); have h2 := (List.getElem?_eq_some_iff.1 h1.1).1; have h3 := List.drop_eq_nil_iff.1 h1.2; rw [show (cutS s).length = k + 1 by omega]; exact hM.sub (List.singleton_sublist.2 (by simp)))⟩
  replace hc33 := odf hc33
  have hs0 : 0 < slashes sc := by
    rcases Nat.eq_zero_or_pos (slashes sc) with h0 | h0
    · have := (Zw h0).1; omega
    · exact h0
  obtain ⟨m,hm1,hm2,hm3,hm4⟩ := idx_hit hs0
  refine Jw (hN5 _ _ (Jb [(0,.func _ _ _),(1,_),(2,_),(3,_),(7,.int _ _)] ⟨U,U,U,U,U,O⟩ fun σ => Jg fun N7 hN7 => Jk (Jd (Jq Tryz.isAgg9 U (Jm 2 U U)) U U U (Jd (Jf U) U U U (Jd (Jq Tryz.isAgg3 U (Jm 3 U U)) U U U (Jd (Kr U U ⟨by omega,by omega⟩) U U U (Jd (MQ Tryz.underlying9 U U (by omega) (by omega)) U U U (Jd (Ul U) U U U ?_))))))))
  refine Ja (hN7 _ _ (Jb [(0,.func _ _ _),(1,_),(2,_),(3,_),(7,.int _ _),(8,.string _)] ⟨U,U,U,U,U,U,O⟩ fun σ => Jg fun N8 hN8 => Jg fun N9 hN9 => Jk (Jd (Ju (v := .func _ _ _) U) U U U (Jd (Ku U) U U U ?_))))
  refine gop_yield (l := l) (k := k) (J := J) (Jx := Jx) (vs := [.string _]) U U U (fun r W1 hM1 => hY k (sc.extract 0 (Lib.indexByte sc.data.toList 47 + 0).toNat) r W1 (by rw [show (Lib.indexByte sc.data.toList 47 + 0).toNat = m by omega]; exact (Xj (hk1.trans hm3)).1) hM1) U (fun bY41 gY41 hY41 => ?_)
  refine Jd (Mp U) U U U (Ja (hN9 _ _ (gT [_,box b1 _,box _ _,box b3 _] U (Jb [(0,.func _ _ _),(1,_),(2,_),(3,_),(7,.int _ _),(42,.bool _)] ⟨U,U,U,U,U,U,O⟩ fun σ => ?_))))
  refine Jt (b := _) U (fun hc42 => ?_) (fun hc42 => ?_)
  obtain rfl : bY41 = false := by simpa using hc42
  obtain ⟨iY,rfl⟩ : ∃ i,gY41 = Jx k i := hY41
  refine Ke fun w1 hM => ?_
  refine ⟨_,res0 rfl,?_⟩
  exact ⟨⟨_,rfl⟩,.inr ⟨k,iY,(List.getElem?_eq_some_iff.1 (Xj (hk1.trans hm3)).1).1,hM.sub (List.singleton_sublist.2 (by simp))⟩⟩
  obtain rfl : bY41 = true := by simpa using hc42
  obtain rfl : gY41 = J (k + 1) := hY41
  refine Jw (hN8 _ _ (Jb [(0,.func _ _ _),(1,_),(2,_),(3,_),(7,.int _ _)] ⟨U,U,U,U,U,O⟩ fun σ => Jk (Jd (Jq Tryz.isAgg9 U (Jm 2 U U)) U U U (Jd (Jf U) U U U (Jd (Jq Tryz.isAgg9 U (Jm 1 U U)) U U U (Jd (Qt Tryz.underlying9 U) U U U (Jd (Kr U U ⟨by omega,by omega⟩) U U U (Jd (MM Tryz.underlying9 U U (by omega) (by omega)) U U U ?_))))))))
  refine Jr 2 (v := .string _) (cs' := #[_]) U U Tryz.sizeOf9 U U U U (leb U) U U (Ja ?_)
  refine Kt ((k + 1,sc.extract (Lib.indexByte sc.data.toList 47 + ((⟨#[47]⟩ : ByteArray).size : Int)).toNat sc.size)) (by show slashes (sc.extract (Lib.indexByte sc.data.toList 47 + ((⟨#[47]⟩ : ByteArray).size : Int)).toNat sc.size) < slashes sc; rw [show (Lib.indexByte sc.data.toList 47 + ((⟨#[47]⟩ : ByteArray).size : Int)).toNat = m + 1 by omega]; omega) (by rw [show (Lib.indexByte sc.data.toList 47 + ((⟨#[47]⟩ : ByteArray).size : Int)).toNat = m + 1 by omega]; exact ⟨(Xj (hk1.trans hm3)).2,by omega,by simp; omega⟩) trivial ⟨U,U,U,U,O⟩ ⟨_,U⟩
set_option maxHeartbeats 1000000 in
theorem splitSeq_any (w : World) (s : ByteArray) : Calls Tryz.prog 110 #[.string s, .string ⟨#[47]⟩, .int .i64 0] w fun e w' => ∃ v T', e = .returned v ∧ (∃ b1 b2 b3, v = .func (.func 135) #[] #[.pointer (some ⟨b1, 0, none⟩), .pointer (some ⟨b2, 0, none⟩), .pointer (some ⟨b3, 0, none⟩)] ∧ T' = [box b2 (.cells #[.string s] 9), box b1 (.cells #[.string ⟨#[47]⟩] 9), box b3 (.cells #[.int .i64 0] 3)]) ∧ Mem w T' w' := by
 refine Kz Tryz.func110 U Tryz.ntmps110 (leb U) ?_
 refine Jb [(0,.string _),(1,.string _),(2,.int _ _)] ⟨U,U,U,O⟩ fun σ => Jg fun N1 hN1 => Jk ?_
 refine Mt (v := .string _) (cs := #[_]) U U U (fun b3 hb3 => ?_)
 refine Mt (v := .string _) (cs := #[_]) U U U (fun b4 hb4 => ?_)
 refine Mt (v := .int _ _) (cs := #[_]) U U U (fun b5 hb5 => ?_)
 refine Jd (Kx (v := .nilFunc) U) U U U (Ja (hN1 _ _ (gT [box b3 _,box b4 _,box b5 _] U (Jb [(3,.pointer _),(4,.pointer _),(5,.pointer _)] ⟨U,U,U,O⟩ fun σ => Jg fun N2 hN2 => Jk (Jd (Ym (vs := [.pointer (some ⟨b4,0,none⟩),.pointer (some ⟨b3,0,none⟩),.pointer (some ⟨b5,0,none⟩)]) U) U U U (Jd (Kx (v := .func (.func 135) #[] #[.pointer (some ⟨b4,0,none⟩),.pointer (some ⟨b3,0,none⟩),.pointer (some ⟨b5,0,none⟩)]) U) U U U (Ja (hN2 _ _ ?_))))))))
 refine Jb [(6,.func (.func 135) #[] #[.pointer (some ⟨b4,0,none⟩),.pointer (some ⟨b3,0,none⟩),.pointer (some ⟨b5,0,none⟩)])] ⟨U,O⟩ fun σ => ?_
 refine Ke fun w1 hM => ?_
 refine ⟨_,res1 rfl (rt (v := .func (.func 135) #[] #[.pointer (some ⟨b4,0,none⟩),.pointer (some ⟨b3,0,none⟩),.pointer (some ⟨b5,0,none⟩)]) rfl),?_⟩
 exact ⟨_,_,rfl,⟨_,_,_,rfl,rfl⟩,hM⟩
set_option maxHeartbeats 1000000 in
theorem MX (w : World) (s : ByteArray) : Calls Tryz.prog 81 #[.string s, .string ⟨#[47]⟩] w fun e w' => ∃ v T', e = .returned v ∧ (∃ b1 b2 b3, v = .func (.func 135) #[] #[.pointer (some ⟨b1, 0, none⟩), .pointer (some ⟨b2, 0, none⟩), .pointer (some ⟨b3, 0, none⟩)] ∧ T' = [box b2 (.cells #[.string s] 9), box b1 (.cells #[.string ⟨#[47]⟩] 9), box b3 (.cells #[.int .i64 0] 3)]) ∧ Mem w T' w' := by
 refine Kz Tryz.func81 U Tryz.ntmps81 (leb U) ?_
 refine Jb [(0,.string _),(1,.string _)] ⟨U,U,O⟩ fun σ => Jg fun N1 hN1 => Jk (Jd (Kx (v := .nilFunc) U) U U U (Ja (hN1 _ _ (Jb [(0,.string _),(1,.string _)] ⟨U,U,O⟩ fun σ => Jg fun N2 hN2 => Jk (Jd (Ku U) U U U (Jd (Ku U) U U U ?_))))))
 refine My (fun v T' => ∃ b1 b2 b3,v = .func (.func 135) #[] #[.pointer (some ⟨b1,0,none⟩),.pointer (some ⟨b2,0,none⟩),.pointer (some ⟨b3,0,none⟩)] ∧ T' = [box b2 (.cells #[.string s] 9),box b1 (.cells #[.string ⟨#[47]⟩] 9),box b3 (.cells #[.int .i64 0] 3)]) (Kb (vs := [.string _,.string _,_]) Tryz.func110 U (by kernel_rfl) U) (fun w hM => splitSeq_any w s) U U U ?_
 rintro _ _ ⟨b1,b2,b3,rfl,rfl⟩
 refine Jd (Kx (v := .func _ _ _) U) U U U (Ja (hN2 _ _ (gT [box b2 _,box b1 _,box b3 _] U (Jb [(4,.func _ _ _)] ⟨U,O⟩ fun σ => ?_))))
 refine Ke fun w1 hM => ?_
 refine ⟨_,res1 rfl (rt (v := .func _ _ _) rfl),?_⟩
 exact ⟨_,_,rfl,⟨_,_,_,rfl,rfl⟩,hM⟩
end Go.Proofs.YtbkameioedmlkaaGreatDoor
