/- Own frame, plain models and walks, part 1 (texts of this claim put together). -/
import Derived.Below
import Derived.Carry
import Derived.Deep.AppendLies
import Derived.Deep.Quiet
import Derived.Ground.Names2Prog
import Derived.IntWalk
import Derived.Laws.Cover1
import Derived.Laws.Cover3
import Derived.Laws.Externs
import Derived.Laws.IdiomStrings
import Derived.Laws.OwnMore
import Derived.Laws.Runes
import Derived.Laws.Strings
import Derived.Laws.Strings2
import Derived.Laws.StructEq
import Derived.Laws.Tables
import Derived.Lib.Bytealg
import Derived.Lib.RowBridge
import Derived.Maps.AppendAt
import Derived.Maps.Keyed
import Derived.OrdersHeld
import Derived.OwnWalk
import Derived.RangeFuncCalls
import Derived.RangeFuncLeaves
import Derived.RangeFuncRecord
import Derived.RangeFuncSeq
import Derived.Shelf.Bits.Mul64
import Derived.Shelf.Slices.Cells
import Derived.Shelf.Slices.CompactI
import Derived.Shelf.Slices.In.SortNone
import Derived.Shelf.Slices.Turned
import Derived.Shelf.Sort.Plain
import Derived.Sort.OwnSortedInts
import Derived.TacticsIn
import Derived.Test.YtlmhppnbcbadbaaDoorChecked
import Derived.Test.YtlmhppnbcbadbaaDoorProg
import Derived.WalkKit
import Derived.WideKeyRuns
namespace Go.Cf
abbrev Env := Nat → Value
def upd (ρ : Env) (t : Nat) (v : Value) : Env := fun s => bif Nat.beq s t then v else ρ s
def updL (ρ : Env) : List (Nat × Value) → Env
  | [] => ρ
  | (t, v) :: l => upd (updL ρ l) t v
def ev (ρ : Env) : Operand → Value
  | .tmp t => ρ t
  | .const v => v
  | .global g => .pointer (some ⟨g, 0, none⟩)
  | .func f => .func (.func f) #[] #[]
def agree (ρ : Env) : List (Nat × Value) → Prop
  | [] => True
  | (t, v) :: l => ρ t = v ∧ agree ρ l
theorem beq_no {s t : Nat} (h : s ≠ t) : Nat.beq s t = false := by
  cases e : Nat.beq s t with
  | false => rfl
  | true => exact absurd (Nat.eq_of_beq_eq_true e) h
theorem upd_same (ρ : Env) (t : Nat) (v : Value) : upd ρ t v t = v := by simp [upd]
theorem upd_other (ρ : Env) {t s : Nat} (v : Value) (h : s ≠ t) : upd ρ t v s = ρ s := by
  have : Nat.beq s t = false := beq_no h
  simp [upd, this]
theorem upd_self (ρ : Env) (t : Nat) (v : Value) (h : ρ t = v) : upd ρ t v = ρ := by
  funext s
  by_cases e : s = t
  · subst e; rw [upd_same, h]
  · rw [upd_other _ _ e]
theorem updL_self (ρ : Env) : ∀ l, agree ρ l → updL ρ l = ρ
  | [], _ => rfl
  | (t, v) :: l, h => by
    show upd (updL ρ l) t v = ρ
    rw [updL_self ρ l h.2, upd_self _ _ _ h.1]
structure Fr where
  n : Nat
  ds : List Deferred
  rd : Option (Option Nat)
def fen : Option Nat → Fence
  | none => Fence.wide
  | some l => Fence.wide.inRound l
theorem fen_fn (r : Option Nat) (f : Nat) : (fen r).fn f := by cases r <;> trivial
theorem fen_depth (r : Option Nat) : (fen r).depth = none := by cases r <;> rfl
abbrev Fr.plain (n : Nat) : Fr := ⟨n, [], none⟩
structure Is (n : Fr) (ρ : Env) (a : Act) : Prop where
  defers : a.defers = n.ds
  size : a.tmps.size = n.n
  val : ∀ t, a.tmps.getD t undef = ρ t
theorem Is.eval {n : Fr} {ρ : Env} {a : Act} (h : Is n ρ a) : a.eval = ev ρ := by
  funext x
  cases x with
  | tmp t => exact h.val t
  | const v => rfl
  | global g => rfl
  | func f => rfl
theorem Is.put {n : Fr} {ρ : Env} {a : Act} (h : Is n ρ a) {d : Nat} (hd : Nat.blt d n.n = true) (v : Value) : Is n (upd ρ d v) (a.put (some d) v) := by
  have hd' : d < n.n := Nat.le_of_ble_eq_true hd
  refine ⟨h.defers, by simp [Act.put, h.size], fun t => ?_⟩
  have hs : d < a.tmps.size := by rw [h.size]; exact hd'
  by_cases e : t = d
  · subst e
    simp [Act.put, upd_same, hs]
  · rw [upd_other _ _ e, ← h.val t]
    simp only [Act.put, Array.getD_eq_getD_getElem?]
    rw [Array.getElem?_setIfInBounds_ne (fun h => e h.symm)]
def Ends (n : Fr) (R : Env → World → Prop) (a : Act) (w : World) : Prop :=
  ∃ ρ, a.tmps.size = n.n ∧ (∀ t, a.tmps.getD t undef = ρ t) ∧ ((a.defers = n.ds ∧ R ρ w) ∨
    (n.ds = [] ∧ n.rd = none ∧ ∃ D, a.defers = [{ target := .collected D, args := #[] }] ∧ w.heap[D]? = some (.deferred (some [])) ∧ R ρ (w.putObj D (.deferred none))))
theorem Ends.none {n : Fr} {a : Act} {w : World} (h : Ends n (fun _ _ => False) a w) : False := by
  obtain ⟨_, _, _, h | ⟨_, _, _, _, _, h⟩⟩ := h
  · exact h.2
  · exact h
theorem Is.ends {n : Fr} {ρ : Env} {a : Act} {w : World} {R : Env → World → Prop} (h : Is n ρ a) (hR : R ρ w) : Ends n R a w := ⟨ρ, h.size, h.val, .inl ⟨h.defers, hR⟩⟩
def Out (n : Fr) (N : Env → World → Prop) (X : Nat → Env → World → Prop) (R : Env → World → Prop) : Exit → Act → World → Prop
  | .normal, a, w => ∃ ρ, Is n ρ a ∧ N ρ w
  | .exit i, a, w => ∃ ρ, Is n ρ a ∧ X i ρ w
  | .ret, a, w => Ends n R a w
  | _, _, _ => False
def cw (n : Fr) (P : Program) (c : Code) (Q : Exit → Act → World → Prop) (a : Act) (w : World) : Prop :=
  match n.rd with
  | none => c.wp P Q a w
  | some l => c.wpIn (fen l) 0 P Q a w
section
variable {n : Fr} {P : Program} {Q Q' : Exit → Act → World → Prop} {a : Act} {w : World} {x y c : Code}
theorem cw_mono (h : cw n P c Q a w) (hq : ∀ e a w, Q e a w → Q' e a w) : cw n P c Q' a w := by
  unfold cw at *; split at h
  · exact wp_mono h hq
  · exact wpIn_mono h hq
theorem cw_seq (h : cw n P x (Exit.then (cw n P y Q) Q) a w) : cw n P (.seq x y) Q a w := by
  unfold cw at *; split at h
  · exact wp_seq h
  · exact wpIn_seq h
theorem cw_skip (h : Q .normal a w) : cw n P .skip Q a w := by
  unfold cw; split
  · exact wp_skip h
  · exact wpIn_skip h
theorem cw_exit {i : Nat} (h : Q (.exit i) a w) : cw n P (.exit i) Q a w := by
  unfold cw; split
  · exact wp_exit h
  · exact wpIn_exit h
theorem cw_ret (h : Q .ret a w) : cw n P .ret Q a w := by
  unfold cw; split
  · exact wp_ret h
  · exact wpIn_ret h
theorem cw_cond_split {c : Operand} {t : Bool} (hc : a.eval c = .bool t) (ht : t = true → cw n P x Q a w) (hf : t = false → cw n P y Q a w) : cw n P (.cond c x y) Q a w := by
  obtain ⟨k, ds, rd⟩ := n
  cases rd with
  | none => exact wp_cond_split hc ht hf
  | some l => exact wpIn_cond_split hc ht hf
theorem cw_block {id : Nat} (h : cw n P c (Exit.inBlock id Q) a w) : cw n P (.block id c) Q a w := by
  unfold cw at *; split at h
  · exact wp_block h
  · exact wpIn_block h
theorem cw_of_wp (hn : n.rd = none) (h : c.wp P Q a w) : cw n P c Q a w := by unfold cw; rw [hn]; exact h
theorem wp_of_cw (hn : n.rd = none) (h : cw n P c Q a w) : c.wp P Q a w := by unfold cw at h; rw [hn] at h; exact h
end
def cwp (P : Program) (n : Fr) (c : Code) (N : Env → World → Prop) (X : Nat → Env → World → Prop) (R : Env → World → Prop) (ρ : Env) (w : World) : Prop :=
  ∀ a, Is n ρ a → cw n P c (Out n N X R) a w
section
variable {P : Program} {n : Fr} {N : Env → World → Prop} {X : Nat → Env → World → Prop} {R : Env → World → Prop} {ρ : Env} {w : World}
theorem cwp_seq {x y : Code} (h : cwp P n x (fun ρ w => cwp P n y N X R ρ w) X R ρ w) : cwp P n (.seq x y) N X R ρ w := by
  intro a ha
  refine cw_seq (cw_mono (h a ha) fun e a' w' q => ?_)
  cases e with
  | normal => obtain ⟨ρ', h1, h2⟩ := q; exact h2 a' h1
  | exit i => exact q
  | ret => exact q
  | goto l => exact q
  | panic c => exact q
  | outgrown => exact q
theorem cwp_skip (h : N ρ w) : cwp P n .skip N X R ρ w := fun _ ha => cw_skip ⟨ρ, ha, h⟩
theorem cwp_exit {i : Nat} (h : X i ρ w) : cwp P n (.exit i) N X R ρ w := fun _ ha => cw_exit ⟨ρ, ha, h⟩
theorem cwp_ret (h : R ρ w) : cwp P n .ret N X R ρ w := fun _ ha => cw_ret (ha.ends h)
theorem cwp_cond {c : Operand} {x y : Code} {b : Bool} (hc : ev ρ c = .bool b) (h1 : b = true → cwp P n x N X R ρ w) (h2 : b = false → cwp P n y N X R ρ w) :
    cwp P n (.cond c x y) N X R ρ w := fun a ha => by
  have hc' : a.eval c = .bool b := by rw [ha.eval]; exact hc
  exact cw_cond_split hc' (fun hb => h1 hb a ha) (fun hb => h2 hb a ha)
theorem cwp_block {i : Nat} {c : Code} (h : cwp P n c N (fun j => bif Nat.beq j i then N else X j) R ρ w) : cwp P n (.block i c) N X R ρ w := by
  intro a ha
  refine cw_block (cw_mono (h a ha) fun e a' w' q => ?_)
  cases e with
  | exit j =>
    obtain ⟨ρ', h1, h2⟩ := q
    show (if j = i then _ else _)
    by_cases e : j = i
    · subst e
      rw [if_pos rfl]
      exact ⟨ρ', h1, by simpa using h2⟩
    · rw [if_neg e]
      have : Nat.beq j i = false := beq_no e
      exact ⟨ρ', h1, by simpa [this] using h2⟩
  | normal => exact q
  | ret => exact q
  | goto l => exact q
  | panic c => exact q
  | outgrown => exact q
theorem wp_loopR {c : Code} (I : Nat → Env → World → Prop) (m0 : Nat) (h0 : I m0 ρ w) (hn : n.rd = none)
    (round : ∀ m ρ w, I m ρ w → cwp P n c (fun ρ' w' => ∃ m', m' < m ∧ I m' ρ' w') X R ρ w) : cwp P n (.loop c) N X R ρ w := by
  intro a ha
  refine cw_of_wp hn ?_
  intro b k cs
  have key : ∀ m ρ w a, I m ρ w → Is n ρ a →
      ∃ e a' w', Out n N X R e a' w' ∧ Arrives P (lone (b.at a (.code c :: .inLoop c :: k)) cs w) b k cs e a' w' := by
    intro m
    induction m using Nat.strongRecOn with
    | _ m ih =>
      intro ρ w a hI ha
      obtain ⟨e, a₁, w₁, hq, harr⟩ := wp_of_cw hn (round m ρ w hI a ha) b (.inLoop c :: k) cs
      cases e with
      | normal =>
        obtain ⟨ρ', hρ', m', hlt, hI'⟩ := hq
        obtain ⟨e₂, a₂, w₂, hq₂, harr₂⟩ := ih m' hlt ρ' w₁ a₁ hI' hρ'
        exact ⟨e₂, a₂, w₂, hq₂, .of_steps (Steps.trans harr (.one step_inLoop)) harr₂⟩
      | exit id => exact ⟨.exit id, a₁, w₁, hq, .pass (x := .inLoop c) rfl (fun _ _ => .inl (by simp)) harr⟩
      | ret => exact ⟨.ret, a₁, w₁, hq, .pass (x := .inLoop c) rfl (fun _ _ => .inl (by simp)) harr⟩
      | goto l => exact hq.elim
      | panic ch => exact hq.elim
      | outgrown => exact hq.elim
  obtain ⟨e, a', w', hq, harr⟩ := key m0 ρ w a h0 ha
  exact ⟨e, a', w', hq, .of_steps (.one step_loop) harr⟩
theorem wp_loopI {l : Option Nat} {c : Code} (I : Nat → Env → World → Prop) (m0 : Nat) (h0 : I m0 ρ w) (hn : n.rd = some l)
    (round : ∀ m ρ w, I m ρ w → cwp P n c (fun ρ' w' => ∃ m', m' < m ∧ I m' ρ' w') X R ρ w) : cwp P n (.loop c) N X R ρ w := by
  intro a ha
  unfold cw
  rw [hn]
  intro b k cs hro hb hr
  have key : ∀ m ρ w a, I m ρ w → Is n ρ a →
      ∃ e a' w', Out n N X R e a' w' ∧ ArrivesIn (Machine.fenced P (fen l)) P (lone (b.atR a (.code c :: .inLoop c :: k)) cs w) b k cs e a' w' := by
    intro m
    induction m using Nat.strongRecOn with
    | _ m ih =>
      intro ρ w a hI ha
      have hrd := round m ρ w hI a ha
      unfold cw at hrd
      rw [hn] at hrd
      obtain ⟨e, a₁, w₁, hq, harr⟩ := hrd b (.inLoop c :: k) cs hro hb hr
      cases e with
      | normal =>
        obtain ⟨ρ', hρ', m', hlt, hI'⟩ := hq
        obtain ⟨e₂, a₂, w₂, hq₂, harr₂⟩ := ih m' hlt ρ' w₁ a₁ hI' hρ'
        exact ⟨e₂, a₂, w₂, hq₂, .of_steps (StepsIn.trans harr (.one (fenced_calm hb hr rfl) stepR_inLoop)) harr₂⟩
      | exit id => exact ⟨.exit id, a₁, w₁, hq, .pass (x := .inLoop c) rfl (fun _ _ => .inl (by simp)) harr⟩
      | ret => exact ⟨.ret, a₁, w₁, hq, .pass (x := .inLoop c) rfl (fun _ _ => .inl (by simp)) harr⟩
      | goto l => exact hq.elim
      | panic ch => exact hq.elim
      | outgrown => exact hq.elim
  obtain ⟨e, a', w', hq, harr⟩ := key m0 ρ w a h0 ha
  exact ⟨e, a', w', hq, .of_steps (.one (fenced_calm hb hr rfl) stepR_loop) harr⟩
theorem cwp_loop {c : Code} (I : Nat → Env → World → Prop) (m0 : Nat) (h0 : I m0 ρ w)
    (round : ∀ m ρ w, I m ρ w → cwp P n c (fun ρ' w' => ∃ m', m' < m ∧ I m' ρ' w') X R ρ w) : cwp P n (.loop c) N X R ρ w := by
  cases hn : n.rd with
  | none => exact wp_loopR I m0 h0 hn round
  | some l => exact wp_loopI I m0 h0 hn round
end
end Go.Cf
namespace Go.Cf
open Go.RowKit
structure Reg where
  has : Nat → Prop
  ok : World → Prop
  stays : ∀ w w' : World, (∀ b, has b → w'.heap[b]? = w.heap[b]?) → ok w → ok w'
def box (b : Nat) (o : Obj) : Reg := ⟨fun k => k = b, fun w => w.heap[b]? = some o, fun _ _ h hw => (h b rfl).trans hw⟩
def room (b : Nat) (e : TypeId) (m : Nat) : Reg :=
  ⟨fun k => k = b, fun w => ∃ cs : Array Value, cs.size = m ∧ w.heap[b]? = some (.cells cs e (0, 0)), fun _ _ h ⟨cs, hm, hw⟩ => ⟨cs, hm, (h b rfl).trans hw⟩⟩
def row (base : Nat) (e : TypeId) (size : Nat) (v : Value) (n : Nat) (xs : List Value) : Reg :=
  ⟨fun k => v.ownBlock = some k, fun w => w.ownsRow base e size v n xs, fun w w' h hw => by
    refine ⟨hw.1, ?_⟩
    rcases hw.2 with h1 | ⟨g, cap, cur, rfl, h2, h3, h4⟩
    · exact .inl h1
    · exact .inr ⟨g, cap, cur, rfl, h2, (h g rfl).trans h3, h4⟩⟩
structure Mem (w0 : World) (T : List Reg) (w : World) : Prop where
  low : Below w0.heap.size w0 w
  ok : ∀ r ∈ T, r.ok w
  lt : ∀ r ∈ T, ∀ b, r.has b → b < w.heap.size
  ge : ∀ r ∈ T, ∀ b, r.has b → w0.heap.size ≤ b
  disj : T.Pairwise (fun r s => ∀ b, r.has b → s.has b → False)
structure Chg (S : Nat → Prop) (w w' : World) : Prop where
  os : w'.os = w.os
  tape : w'.tape = w.tape
  output : w'.output = w.output
  size : w.heap.size ≤ w'.heap.size
  block : ∀ k, k < w.heap.size → ¬ S k → w'.heap[k]? = w.heap[k]?
theorem Chg.of_below {S : Nat → Prop} {w w' : World} (h : Below w.heap.size w w') : Chg S w w' := ⟨h.os, h.tape, h.output, h.size, fun k hk _ => h.block k hk⟩
theorem Chg.of_grownBy {w w' : World} {row : Option Nat} (h : w.grownBy w' row) : Chg (fun k => row = some k) w w' :=
  ⟨h.os, h.tape, h.output, h.size, fun k hk hn => h.block k hk (fun e => hn e.symm)⟩
theorem Chg.setCell (w : World) (a : Addr) (v : Value) : Chg (fun k => k = a.block) w (w.setCell a v) :=
  ⟨rfl, rfl, rfl, by simp, fun k _ hn => Below.heap_setCell w a v k hn⟩
theorem Chg.trans {S : Nat → Prop} {a b c : World} (h : Chg S a b) (k : Chg S b c) : Chg S a c :=
  ⟨k.os.trans h.os, k.tape.trans h.tape, k.output.trans h.output, Nat.le_trans h.size k.size, fun i hi hn => (k.block i (Nat.lt_of_lt_of_le hi h.size) hn).trans (h.block i hi hn)⟩
section
variable {w0 w w' : World} {T : List Reg}
theorem Mem.start (w : World) : Mem w [] w := ⟨Below.refl _ _, by simp, by simp, by simp, .nil⟩
theorem Mem.drew (h : Mem w0 T w) (hh : w'.heap = w.heap) (h1 : w'.os = w.os) (h2 : w'.tape = w.tape) (h3 : w'.output = w.output) : Mem w0 T w' :=
  ⟨⟨h1.trans h.low.os, h2.trans h.low.tape, h3.trans h.low.output, by rw [hh]; exact h.low.size, fun k hk => by rw [hh]; exact h.low.block k hk⟩,
   fun r hr => r.stays w w' (fun b _ => by rw [hh]) (h.ok r hr), fun r hr b hb => by rw [hh]; exact h.lt r hr b hb, h.ge, h.disj⟩
theorem Mem.call (h : Mem w0 T w) (hb : Below w.heap.size w w') : Mem w0 T w' :=
  ⟨h.low.trans (hb.mono h.low.size), fun r hr => r.stays w w' (fun b hbb => hb.block b (h.lt r hr b hbb)) (h.ok r hr),
   fun r hr b hbb => Nat.lt_of_lt_of_le (h.lt r hr b hbb) hb.size, h.ge, h.disj⟩
theorem Mem.add (h : Mem w0 T w) (hb : Below w.heap.size w w') {r : Reg} (hr : r.ok w') (hh : ∀ b, r.has b → w.heap.size ≤ b ∧ b < w'.heap.size) : Mem w0 (T ++ [r]) w' := by
  have h' := h.call hb
  refine ⟨h'.low, ?_, ?_, ?_, ?_⟩
  · intro s hs
    rcases List.mem_append.1 hs with hs | hs
    · exact h'.ok s hs
    · rw [List.mem_singleton.1 hs]; exact hr
  · intro s hs
    rcases List.mem_append.1 hs with hs | hs
    · exact h'.lt s hs
    · rw [List.mem_singleton.1 hs]; exact fun b hb => (hh b hb).2
  · intro s hs
    rcases List.mem_append.1 hs with hs | hs
    · exact h'.ge s hs
    · rw [List.mem_singleton.1 hs]; exact fun b hb => Nat.le_trans h.low.size (hh b hb).1
  · rw [List.pairwise_append]
    refine ⟨h.disj, List.pairwise_singleton _ _, ?_⟩
    intro s hs t ht b hb1 hb2
    rw [List.mem_singleton.1 ht] at hb2
    have := h.lt s hs b hb1
    have := (hh b hb2).1
    omega
theorem Mem.sub (h : Mem w0 T w) {T' : List Reg} (hs : List.Sublist T' T) : Mem w0 T' w :=
  ⟨h.low, fun r hr => h.ok r (hs.subset hr), fun r hr => h.lt r (hs.subset hr), fun r hr => h.ge r (hs.subset hr), h.disj.sublist hs⟩
theorem pairwise_set {R : Reg → Reg → Prop} : ∀ {T : List Reg} {i : Nat} {r r' : Reg}, T.Pairwise R → T[i]? = some r →
    (∀ s ∈ T, R s r → R s r') → (∀ s ∈ T, R r s → R r' s) → (T.set i r').Pairwise R
  | [], _, _, _, _, h, _, _ => by simp at h
  | t :: T, 0, r, r', hp, h, h1, h2 => by
    simp at h
    subst h
    simp only [List.set_cons_zero]
    rw [List.pairwise_cons] at hp ⊢
    exact ⟨fun s hs => h2 s (by simp [hs]) (hp.1 s hs), hp.2⟩
  | t :: T, i + 1, r, r', hp, h, h1, h2 => by
    simp at h
    simp only [List.set_cons_succ]
    rw [List.pairwise_cons] at hp ⊢
    have hr : r ∈ T := List.mem_of_getElem? h
    refine ⟨fun s hs => ?_, pairwise_set hp.2 h (fun s hs => h1 s (by simp [hs])) (fun s hs => h2 s (by simp [hs]))⟩
    rcases List.mem_or_eq_of_mem_set hs with hs | rfl
    · exact hp.1 s hs
    · exact h1 t (by simp) (hp.1 r hr)
theorem Mem.other (h : Mem w0 T w) {i : Nat} {r : Reg} (hi : T[i]? = some r) (hc : Chg r.has w w') : ∀ (j : Nat) (s : Reg), T[j]? = some s → j ≠ i → s.ok w' := by
  intro j s hj hne
  refine s.stays w w' (fun b hb => hc.block b (h.lt s (List.mem_of_getElem? hj) b hb) (fun hrb => ?_)) (h.ok s (List.mem_of_getElem? hj))
  have hp := h.disj
  rw [List.pairwise_iff_getElem] at hp
  obtain ⟨hi1, hi2⟩ := List.getElem?_eq_some_iff.1 hi
  obtain ⟨hj1, hj2⟩ := List.getElem?_eq_some_iff.1 hj
  rcases Nat.lt_or_ge i j with hlt | hge
  · exact hp i j hi1 hj1 hlt b (by rw [hi2]; exact hrb) (by rw [hj2]; exact hb)
  · exact hp j i hj1 hi1 (by omega) b (by rw [hj2]; exact hb) (by rw [hi2]; exact hrb)
theorem Mem.upd (h : Mem w0 T w) {i : Nat} {r r' : Reg} (hi : T[i]? = some r) (hc : Chg r.has w w') (hr : r'.ok w')
    (hh : ∀ b, r'.has b → (r.has b ∨ w.heap.size ≤ b) ∧ b < w'.heap.size) : Mem w0 (T.set i r') w' := by
  have hrT : r ∈ T := List.mem_of_getElem? hi
  refine ⟨?_, ?_, ?_, ?_, ?_⟩
  · refine ⟨hc.os.trans h.low.os, hc.tape.trans h.low.tape, hc.output.trans h.low.output, Nat.le_trans h.low.size hc.size, fun k hk => ?_⟩
    exact (hc.block k (Nat.lt_of_lt_of_le hk h.low.size) (fun hrk => by have := h.ge r hrT k hrk; omega)).trans (h.low.block k hk)
  · intro s hs
    obtain ⟨j, hj⟩ := List.mem_iff_getElem?.1 hs
    rw [List.getElem?_set] at hj
    split at hj
    · split at hj
      · injection hj with hj; rw [← hj]; exact hr
      · cases hj
    · rename_i hne
      exact h.other hi hc j s hj (fun e => hne e.symm)
  · intro s hs b hb
    rcases List.mem_or_eq_of_mem_set hs with hs | rfl
    · exact Nat.lt_of_lt_of_le (h.lt s hs b hb) hc.size
    · exact (hh b hb).2
  · intro s hs b hb
    rcases List.mem_or_eq_of_mem_set hs with hs | rfl
    · exact h.ge s hs b hb
    · rcases (hh b hb).1 with h1 | h1
      · exact h.ge r hrT b h1
      · exact Nat.le_trans h.low.size h1
  · refine pairwise_set h.disj hi (fun s hs hR b h1 h2 => ?_) (fun s hs hR b h1 h2 => ?_)
    · rcases (hh b h2).1 with h3 | h3
      · exact hR b h1 h3
      · have := h.lt s hs b h1; omega
    · rcases (hh b h1).1 with h3 | h3
      · exact hR b h3 h2
      · have := h.lt s hs b h2; omega
end
def Fin (w0 : World) (N : Env → World → Prop) (ρ : Env) (T : List Reg) : Prop := ∀ w, Mem w0 T w → N ρ w
def gwp (P : Program) (n : Fr) (w0 : World) (c : Code) (N : Env → World → Prop) (X : Nat → Env → World → Prop) (R : Env → World → Prop) (ρ : Env) (T : List Reg) : Prop :=
  ∀ w, Mem w0 T w → cwp P n c N X R ρ w
section
variable {P : Program} {n : Fr} {w0 : World} {N : Env → World → Prop} {X : Nat → Env → World → Prop} {R : Env → World → Prop} {ρ : Env} {T : List Reg}
theorem gseq {x y : Code} (h : ∀ N' : Env → World → Prop, (∀ ρ T, gwp P n w0 y N X R ρ T → Fin w0 N' ρ T) → gwp P n w0 x N' X R ρ T) : gwp P n w0 (.seq x y) N X R ρ T :=
  fun w hM => cwp_seq (h _ (fun _ _ hg w hM => hg w hM) w hM)
theorem gskip (h : Fin w0 N ρ T) : gwp P n w0 .skip N X R ρ T := fun w hM => cwp_skip (h w hM)
theorem gexit {i : Nat} (h : Fin w0 (X i) ρ T) : gwp P n w0 (.exit i) N X R ρ T := fun w hM => cwp_exit (h w hM)
theorem gret (h : Fin w0 R ρ T) : gwp P n w0 .ret N X R ρ T := fun w hM => cwp_ret (h w hM)
theorem gcond {c : Operand} {x y : Code} {b : Bool} (hc : ev ρ c = .bool b) (h1 : b = true → gwp P n w0 x N X R ρ T) (h2 : b = false → gwp P n w0 y N X R ρ T) :
    gwp P n w0 (.cond c x y) N X R ρ T := fun w hM => cwp_cond hc (fun hb => h1 hb w hM) (fun hb => h2 hb w hM)
theorem gblock {i : Nat} {c : Code} (h : gwp P n w0 c N (fun j => bif Nat.beq j i then N else X j) R ρ T) : gwp P n w0 (.block i c) N X R ρ T :=
  fun w hM => cwp_block (h w hM)
theorem gfrom {c : Code} (L : List (Nat × Value)) (hL : agree ρ L) (h : ∀ σ, gwp P n w0 c N X R (updL σ L) T) : gwp P n w0 c N X R ρ T := by
  rw [← updL_self ρ L hL]; exact h ρ
end
def envOf (args : Array Value) : Env := fun t => args.getD t undef
theorem is_start (args : Array Value) (n : Nat) (h : args.size ≤ n) : Is (.plain n) (envOf args) { tmps := args ++ Array.replicate (n - args.size) undef, defers := [] } := by
  refine ⟨rfl, by simp; omega, fun t => ?_⟩
  simp only [envOf, Array.getD_eq_getD_getElem?, Array.getElem?_append]
  split
  · rfl
  · rename_i hlt
    rw [Array.getElem?_replicate]
    rw [Array.getElem?_eq_none (by omega)]
    split <;> rfl
def resOf (P : Program) (fn : Func) (ρ : Env) (w : World) (v : Value) : Prop := ∀ tmps : Array Value, (∀ t, tmps.getD t undef = ρ t) → (results fn tmps).run P w = .ok v w
theorem gleaves {P : Program} {fn : Func} {R : Ending → World → Prop} {n : Nat} {c : Code} {a : Act} {w : World}
    (h : cw (.plain n) P c (Out (.plain n) (fun ρ w' => ∃ v, resOf P fn ρ w' v ∧ R (.returned v) w') (fun _ _ _ => False) (fun ρ w' => ∃ v, resOf P fn ρ w' v ∧ R (.returned v) w')) a w) :
    c.wpIn Fence.wide 0 P (bodyPostM Fence.wide 0 P fn R) a w := by
  refine wpIn_wide.2 (wp_mono (wp_of_cw rfl h) fun e a' w' q => ?_)
  cases e with
  | normal =>
    obtain ⟨ρ, hI, v, hv, hR⟩ := q
    show LeavesInM _ _ _ _ _ _ a'.defers _ _
    rw [hI.defers]; exact ⟨v, hv _ hI.val, hR⟩
  | ret =>
    show LeavesInM _ _ _ _ _ _ a'.defers _ _
    obtain ⟨ρ, _, hv0, ⟨hd, v, hv, hR⟩ | ⟨_, _, D, hd, hK, v, hv, hR⟩⟩ := q
    · rw [hd]; exact ⟨v, hv _ hv0, hR⟩
    · rw [hd]; exact ⟨by simp, .inl ⟨D, _, rfl, run_takeDeferred hK, v, hv _ hv0, hR⟩⟩
  | exit i => obtain ⟨ρ, hI, hf⟩ := q; exact hf.elim
  | goto l => exact q.elim
  | panic c => exact q.elim
  | outgrown => exact q.elim
theorem gcalls {P : Program} {f : FuncId} {fn : Func} {c : Code} {args : Array Value} {w : World} {R : Ending → World → Prop} {n : Nat}
    (hf : P.funcs[f]? = some fn) (hb : fn.body = some c) (hn : fn.ntmps = n) (hs : args.size ≤ n)
    (h : gwp P (.plain n) w c (fun ρ w' => ∃ v, resOf P fn ρ w' v ∧ R (.returned v) w') (fun _ _ _ => False) (fun ρ w' => ∃ v, resOf P fn ρ w' v ∧ R (.returned v) w') (envOf args) []) :
    Calls P f args w R := by
  refine callsIn_wide.1 (callsIn_of_wp_marks (F := Fence.wide) (n := 0) hf hb trivial ?_)
  rw [hn]
  exact gleaves (h w (Mem.start w) _ (is_start args n hs))
end Go.Cf
namespace Go.Cf
open Go.RowKit
theorem callsIn_fen (r : Option Nat) {m : Nat} {P : Program} {f : FuncId} {args : Array Value} {w : World} {R : Ending → World → Prop} (h : Calls P f args w R) : CallsIn (fen r) m P f args w R := by
  cases r with
  | none => exact callsIn_wide.2 h
  | some l => exact CallsIn.inRound l (callsIn_wide.2 h)
def lw (n : Fr) (P : Program) (full : Array Oper) (Q : Exit → Act → World → Prop) (l : List Oper) (a : Act) (w : World) : Prop :=
  match n.rd with
  | none => wpList P full Q l a w
  | some r => wpListIn (fen r) 0 P full Q l a w
section
variable {n : Fr} {P : Program} {full : Array Oper} {Q : Exit → Act → World → Prop} {l rest : List Oper} {a : Act} {w : World} {o : Oper}
theorem lw_nil (h : Q .normal a w) : lw n P full Q [] a w := by
  unfold lw; split <;> exact h
theorem lw_region {id : Nat} (h : lw n P l.toArray Q l a w) : cw n P (.region id l.toArray false) Q a w := by
  obtain ⟨k, ds, rd⟩ := n
  cases rd with
  | none => exact wp_region_lit h
  | some r => exact wpIn_region_lit h
theorem no_defer {ρ : Operand → Value} {w' : World} {x : Next} (h : (execOp ρ o).run P w = .ok x w') (hx : ∀ d, x ≠ .defer d) : ∀ c, o.op ≠ .defer c := by
  intro c hc
  have e : execOp ρ o = (do let d ← resolve ρ c o.type; pure (.defer d)) := by unfold execOp; rw [hc]
  rw [e, Sem.run_bind] at h
  cases hr : (resolve ρ c o.type).run P w with
  | ok d w1 => rw [hr] at h; simp [Result.andThen] at h; exact hx d h.1.symm
  | _ => rw [hr] at h; simp [Result.andThen] at h
theorem lw_plain (hg : o.guard = none) {x : Next} {w' : World} (hr : (execOp a.eval o).run P w = .ok x w') (hx : ∀ d, x ≠ .defer d)
    (h : ∀ K : Act → World → Prop, (∀ a w, lw n P full Q rest a w → K a w) → match x with
      | .value v => K (a.put o.dst v) w'
      | .skip => K (a.put o.dst undef) w'
      | .enter f args => Calls P f args w' fun e w2 => ∃ v, e = .returned v ∧ K (a.put o.dst v) w2
      | _ => False) : lw n P full Q (o :: rest) a w := by
  obtain ⟨k, ds, rd⟩ := n
  cases rd with
  | none =>
    refine wpList_plain hg fun K hK => ?_
    have h1 := h K hK
    unfold Oper.wp
    rw [hr]
    cases x with
    | value v => exact h1
    | skip => exact h1
    | enter f args =>
      rw [Oper.upon_enter]
      refine Calls.mono h1 ?_
      rintro e w' ⟨v, rfl, h⟩
      exact h
    | _ => exact h1.elim
  | some r =>
    refine wpListIn_plain hg fun K hK => ?_
    have h1 := h K hK
    refine ⟨fun f _ => fen_fn r f, ?_⟩
    rw [Oper.semAt_eq _ _ _ (no_defer hr hx), hr]
    cases x with
    | value v => exact h1
    | skip => exact h1
    | enter f args =>
      rw [Oper.uponIn_enter]
      refine ⟨fun h => (by rw [fen_depth] at h; cases h), callsIn_fen r (Calls.mono h1 ?_)⟩
      rintro e w' ⟨v, rfl, h⟩
      exact h
    | _ => exact h1.elim
theorem lw_on (hw : Region.wanted o (yielded full a.tmps) = true) (h : lw n P full Q ({ o with guard := none } :: rest) a w) : lw n P full Q (o :: rest) a w := by
  obtain ⟨k, ds, rd⟩ := n
  cases rd with
  | none =>
    show wpList _ _ _ _ _ _
    have h1 : wpList P full Q ({ o with guard := none } :: rest) a w := h
    unfold wpList at h1 ⊢
    rw [if_pos hw]
    rw [if_pos (by rfl)] at h1
    exact h1
  | some r =>
    show wpListIn _ _ _ _ _ _ _ _
    have h1 : wpListIn (fen r) 0 P full Q ({ o with guard := none } :: rest) a w := h
    unfold wpListIn at h1 ⊢
    rw [if_pos hw]
    rw [if_pos (by rfl)] at h1
    exact h1
theorem lw_off (hw : ¬ Region.wanted o (yielded full a.tmps) = true) (h : lw n P full Q rest (a.put o.dst undef) w) : lw n P full Q (o :: rest) a w := by
  obtain ⟨k, ds, rd⟩ := n
  cases rd with
  | none =>
    show wpList _ _ _ _ _ _
    unfold wpList
    rw [if_neg hw]
    exact h
  | some r =>
    show wpListIn _ _ _ _ _ _ _ _
    unfold wpListIn
    rw [if_neg hw]
    exact ⟨fun _ _ => fen_fn r _, h⟩
end
def owp (P : Program) (n : Fr) (full : Array Oper) (l : List Oper) (N : Env → World → Prop) (ρ : Env) (w : World) : Prop :=
  ∀ a, Is n ρ a → lw n P full (Out n N (fun _ _ _ => False) (fun _ _ => False)) l a w
def gops (P : Program) (n : Fr) (w0 : World) (full : Array Oper) (l : List Oper) (N : Env → World → Prop) (ρ : Env) (T : List Reg) : Prop :=
  ∀ w, Mem w0 T w → owp P n full l N ρ w
def Yield (P : Program) (w0 : World) (T : List Reg) (ρ : Env) (o : Oper) (v : Value) : Prop :=
  ∀ w, Mem w0 T w → (execOp (ev ρ) o).run P w = .ok (.value v) w
def Cell (w0 : World) (T : List Reg) (p : Addr) (v : Value) : Prop := ∀ w, Mem w0 T w → w.cell? p = some v
section
variable {P : Program} {n : Fr} {w0 : World} {N : Env → World → Prop} {X : Nat → Env → World → Prop} {R : Env → World → Prop} {ρ : Env} {T : List Reg}
  {full : Array Oper} {l rest : List Oper} {o : Oper} {v : Value} {d : Nat}
theorem out_more {N : Env → World → Prop} : ∀ (e : Exit) (a : Act) (w : World), Out n N (fun _ _ _ => False) (fun _ _ => False) e a w → Out n N X R e a w := by
  intro e a w q
  cases e with
  | normal => exact q
  | exit i => obtain ⟨_, _, hf⟩ := q; exact hf.elim
  | ret => exact (Ends.none q).elim
  | goto l => exact q
  | panic c => exact q
  | outgrown => exact q
theorem greg {id : Nat} (h : gops P n w0 l.toArray l N ρ T) : gwp P n w0 (.region id l.toArray false) N X R ρ T :=
  fun w hM a ha => cw_mono (lw_region (h w hM a ha)) out_more
theorem gops_nil (h : Fin w0 N ρ T) : gops P n w0 full [] N ρ T := fun w hM _ ha => lw_nil ⟨ρ, ha, h w hM⟩
theorem gop (hy : Yield P w0 T ρ o v) (hg : o.guard = none) (hd : o.dst = some d) (hlt : Nat.blt d n.n = true) (h : gops P n w0 full rest N (upd ρ d v) T) :
    gops P n w0 full (o :: rest) N ρ T := by
  intro w hM a ha
  refine lw_plain hg (by rw [ha.eval]; exact hy w hM) (by simp) fun K hK => ?_
  show K (a.put o.dst v) w
  rw [hd]
  exact hK _ _ (h w hM _ (ha.put hlt v))
theorem gop_w (hrun : ∀ w, Mem w0 T w → ∃ v w', (execOp (ev ρ) o).run P w = .ok (.value v) w' ∧ owp P n full rest N (upd ρ d v) w')
    (hg : o.guard = none) (hd : o.dst = some d) (hlt : Nat.blt d n.n = true) : gops P n w0 full (o :: rest) N ρ T := by
  intro w hM a ha
  obtain ⟨v, w', hr, h⟩ := hrun w hM
  refine lw_plain hg (by rw [ha.eval]; exact hr) (by simp) fun K hK => ?_
  show K (a.put o.dst v) w'
  rw [hd]
  exact hK _ _ (h _ (ha.put hlt v))
theorem gop_s (hrun : ∀ w, Mem w0 T w → ∃ w', (execOp (ev ρ) o).run P w = .ok .skip w' ∧ owp P n full rest N ρ w')
    (hg : o.guard = none) (hd : o.dst = none) : gops P n w0 full (o :: rest) N ρ T := by
  intro w hM a ha
  obtain ⟨w', hr, h⟩ := hrun w hM
  refine lw_plain hg (by rw [ha.eval]; exact hr) (by simp) fun K hK => ?_
  show K (a.put o.dst undef) w'
  rw [hd]
  exact hK _ _ (h a ha)
theorem gop_call {f : FuncId} {args : Array Value} (he : ∀ w, (execOp (ev ρ) o).run P w = .ok (.enter f args) w)
    (hc : ∀ w, Mem w0 T w → Calls P f args w (fun e w' => ∃ v, e = .returned v ∧ owp P n full rest N (upd ρ d v) w'))
    (hg : o.guard = none) (hd : o.dst = some d) (hlt : Nat.blt d n.n = true) : gops P n w0 full (o :: rest) N ρ T := by
  intro w hM a ha
  refine lw_plain hg (by rw [ha.eval]; exact he w) (by simp) fun K hK => ?_
  refine Calls.mono (hc w hM) ?_
  rintro e w' ⟨v, rfl, h⟩
  refine ⟨v, rfl, ?_⟩
  rw [hd]
  exact hK _ _ (h _ (ha.put hlt v))
theorem gop_pure {f : FuncId} {args : Array Value} (he : ∀ w, (execOp (ev ρ) o).run P w = .ok (.enter f args) w)
    (hc : ∀ w, Mem w0 T w → Calls P f args w (fun e w' => e = .returned v ∧ Below w.heap.size w w'))
    (hg : o.guard = none) (hd : o.dst = some d) (hlt : Nat.blt d n.n = true) (h : gops P n w0 full rest N (upd ρ d v) T) : gops P n w0 full (o :: rest) N ρ T :=
  gop_call he (fun w hM => (hc w hM).mono fun _ w' ⟨he, hb⟩ => ⟨v, he, h w' (hM.call hb)⟩) hg hd hlt
def boolOf : Value → Option Bool
  | .bool b => some b
  | _ => none
theorem yielded_of {a : Act} (ha : Is n ρ a) {j s : Nat} (hs : (full[j]?).bind (·.dst) = some s) (hlt : Nat.blt s n.n = true) {u : Value} (hv : ρ s = u) :
    yielded full a.tmps j = boolOf u := by
  have hd' : s < a.tmps.size := by rw [ha.size]; exact Nat.le_of_ble_eq_true hlt
  have h1 : a.tmps[s]? = some u := by
    have := ha.val s
    rw [Array.getD_eq_getD_getElem?, Array.getElem?_eq_getElem hd'] at this
    rw [Array.getElem?_eq_getElem hd', ← hv, ← this]; rfl
  unfold yielded
  rw [hs]
  simp only [Option.bind_some, h1]
  cases u <;> rfl
def bare (o : Oper) : Oper := { o with guard := none }
theorem gop_on {j s : Nat} {b want : Bool} (hgd : o.guard = some (j, want)) (hs : (full[j]?).bind (·.dst) = some s) (hlt : Nat.blt s n.n = true) (hv : ρ s = .bool b) (hb : b = want)
    (h : gops P n w0 full (bare o :: rest) N ρ T) : gops P n w0 full (o :: rest) N ρ T := by
  intro w hM a ha
  have h1 := h w hM a ha
  have hy := yielded_of (full := full) ha hs hlt hv
  have hw : Region.wanted o (yielded full a.tmps) = true := by
    unfold Region.wanted; rw [hgd]; simp [hy, hb, boolOf]
  exact lw_on hw h1
theorem gop_off {j s : Nat} {b want : Bool} (hgd : o.guard = some (j, want)) (hs : (full[j]?).bind (·.dst) = some s) (hlt : Nat.blt s n.n = true) (hv : ρ s = .bool b) (hb : b = !want)
    (hd : o.dst = some d) (hlt' : Nat.blt d n.n = true) (h : gops P n w0 full rest N (upd ρ d undef) T) : gops P n w0 full (o :: rest) N ρ T := by
  intro w hM a ha
  have hy := yielded_of (full := full) ha hs hlt hv
  have hw : ¬ Region.wanted o (yielded full a.tmps) = true := by
    unfold Region.wanted; rw [hgd]; simp [hy, hb, boolOf]
  refine lw_off hw ?_
  rw [hd]
  exact h w hM _ (ha.put hlt' undef)
theorem gop_offu {j s : Nat} {want : Bool} (hgd : o.guard = some (j, want)) (hs : (full[j]?).bind (·.dst) = some s) (hlt : Nat.blt s n.n = true) (hv : ρ s = undef)
    (hd : o.dst = some d) (hlt' : Nat.blt d n.n = true) (h : gops P n w0 full rest N (upd ρ d undef) T) : gops P n w0 full (o :: rest) N ρ T := by
  intro w hM a ha
  have hy := yielded_of (full := full) ha hs hlt hv
  have hw : ¬ Region.wanted o (yielded full a.tmps) = true := by
    unfold Region.wanted; rw [hgd]; simp [hy, undef, boolOf]
  refine lw_off hw ?_
  rw [hd]
  exact h w hM _ (ha.put hlt' undef)
def gqs (P : Program) (n : Fr) (w0 : World) (full : Array Oper) (l : List Oper) (Q : Env → Prop) (ρ : Env) (T : List Reg) : Prop :=
  ∀ a, Is n ρ a → wpQuiet P full (Mem w0 T) (fun a' => ∃ ρ', Is n ρ' a' ∧ Q ρ') l a
theorem greg_q {id : Nat} (hm : P.follows .mixedOrders = true) (hB : Region.lexB .any l.toArray = true) (h : gqs P n w0 l.toArray l (fun ρ' => Fin w0 N ρ' T) ρ T) (hrd : n.rd = none := by rfl) :
    gwp P n w0 (.region id l.toArray true) N X R ρ T := by
  intro w hM a ha
  refine cw_of_wp hrd ?_
  refine wp_region_quiet (C := Mem w0 T) hm hB (hM.drew rfl rfl rfl rfl) ?_
  have h1 := h a ha
  have mono : ∀ (full : Array Oper) (l : List Oper) (a : Act), wpQuiet P full (Mem w0 T) (fun a' => ∃ ρ', Is n ρ' a' ∧ Fin w0 N ρ' T) l a → wpQuiet P full (Mem w0 T) (fun a' => ∀ w', Mem w0 T w' → Out n N X R .normal a' w') l a := by
    intro full l
    induction l with
    | nil => intro a ⟨ρ', h1, h2⟩ w' hw'; exact ⟨ρ', h1, h2 w' hw'⟩
    | cons o l ih =>
      intro a h
      unfold wpQuiet at h ⊢
      split
      · rename_i hw; rw [if_pos hw] at h; obtain ⟨v, h1, h2⟩ := h; exact ⟨v, h1, ih _ h2⟩
      · rename_i hw; rw [if_neg hw] at h; exact ih _ h
  have := mono l.toArray l a h1
  simpa using this
theorem gqs_nil {Q : Env → Prop} (h : Q ρ) : gqs P n w0 full [] Q ρ T := fun _ ha => ⟨ρ, ha, h⟩
theorem gq {Q : Env → Prop} (hy : Yield P w0 T ρ o v) (hg : o.guard = none) (hd : o.dst = some d) (hlt : Nat.blt d n.n = true) (h : gqs P n w0 full rest Q (upd ρ d v) T) :
    gqs P n w0 full (o :: rest) Q ρ T := by
  intro a ha
  unfold wpQuiet
  rw [if_pos (by simp [Region.wanted, hg])]
  refine ⟨v, fun w hM => ?_, ?_⟩
  · unfold Oper.quietAt; rw [ha.eval, hy w hM]; exact ⟨rfl, rfl⟩
  · rw [hd]; exact h _ (ha.put hlt v)
theorem gq_pure {Q : Env → Prop} {f : FuncId} {args : Array Value} (he : ∀ w, (execOp (ev ρ) o).run P w = .ok (.enter f args) w)
    (hc : ∀ w, Mem w0 T w → Calls P f args w (fun e w' => e = .returned v ∧ Below w.heap.size w w'))
    (hg : o.guard = none) (hd : o.dst = some d) (hlt : Nat.blt d n.n = true) (h : gqs P n w0 full rest Q (upd ρ d v) T) : gqs P n w0 full (o :: rest) Q ρ T := by
  intro a ha
  unfold wpQuiet
  rw [if_pos (by simp [Region.wanted, hg])]
  refine ⟨v, fun w hM => ?_, ?_⟩
  · unfold Oper.quietAt; rw [ha.eval, he w]; exact ⟨rfl, (hc w hM).mono fun e w' ⟨h1, h2⟩ => ⟨h1, hM.call h2⟩⟩
  · rw [hd]; exact h _ (ha.put hlt v)
end
section
variable {w0 : World} {T : List Reg} {p : Addr} {v : Value}
theorem cell_base (h : w0.cell? p = some v) : Cell w0 T p v := fun _ hM => (hM.low.cell (World.block_lt_of_cell? w0 p h)).trans h
theorem cell_box (i : Nat) {b off : Nat} {cs : Array Value} {e : TypeId} {fz : Nat × Nat} (hi : T[i]? = some (box b (.cells cs e fz))) (h : cs[off]? = some v) : Cell w0 T ⟨b, off, none⟩ v :=
  fun w hM => by
    have : w.heap[b]? = some (.cells cs e fz) := hM.ok _ (List.mem_of_getElem? hi)
    simp [World.cell?, this, h]
end
end Go.Cf
namespace Go.Cf
open Go.RowKit
def In64 (x : Int) : Prop := -9223372036854775808 ≤ x ∧ x ≤ 9223372036854775807
theorem wrap_in {x : Int} (h : In64 x) : IntKind.i64.wrap x = x := by
  unfold In64 at h
  rw [IntKind.wrap_i64]; omega
section
variable {P : Program} {w0 : World} {T : List Reg} {ρ : Env} {dst : Option Tmp} {ty : TypeId} {pos : String} {af : Array Edge} {gd : Option (Nat × Bool)} {x y z : Operand} {v : Value} {t yt : TypeId}
theorem y_bare {o : Oper} (h : Yield P w0 T ρ o v) : Yield P w0 T ρ (bare o) v := h
theorem y_move (hx : ev ρ x = v) : Yield P w0 T ρ ⟨dst, .move x, ty, pos, af, gd⟩ v := fun _ _ => by subst hx; rfl
theorem y_assign (hx : ev ρ x = v) : Yield P w0 T ρ ⟨dst, .assign x, ty, pos, af, gd⟩ v := fun _ _ => by subst hx; rfl
theorem y_pick_t {b : Bool} (hc : ev ρ x = .bool b) (hb : b = true) (hy : ev ρ y = v) : Yield P w0 T ρ ⟨dst, .pick x y z, ty, pos, af, gd⟩ v := fun _ _ => by
  subst hb; simp [execOp, hc, hy, asBool]
theorem y_pick_f {b : Bool} (hc : ev ρ x = .bool b) (hb : b = false) (hz : ev ρ z = v) : Yield P w0 T ρ ⟨dst, .pick x y z, ty, pos, af, gd⟩ v := fun _ _ => by
  subst hb; simp [execOp, hc, hz, asBool]
theorem y_bin {op : BinOp} {vx vy : Value} (hx : ev ρ x = vx) (hy : ev ρ y = vy) (hg : ∀ w, (eqGuard op t x y vx vy).run P w = .ok () w) (hr : ∀ w, (binOp op t vx vy).run P w = .ok v w) :
    Yield P w0 T ρ ⟨dst, .binOp op t x y yt, ty, pos, af, gd⟩ v := fun w _ => by
  subst hx; subst hy; simp [execOp, hg, hr]
section
variable {k : IntKind} {a b : Int} (hx : ev ρ x = .int k a) (hy : ev ρ y = .int k b)
include hx hy
theorem y_lss : Yield P w0 T ρ ⟨dst, .binOp .lss t x y yt, ty, pos, af, gd⟩ (.bool (decide (a < b))) := fun _ _ => by simp [execOp, go_sem, hx, hy]
theorem y_leq : Yield P w0 T ρ ⟨dst, .binOp .leq t x y yt, ty, pos, af, gd⟩ (.bool (decide (a ≤ b))) := fun _ _ => by simp [execOp, go_sem, hx, hy]
theorem y_gtr : Yield P w0 T ρ ⟨dst, .binOp .gtr t x y yt, ty, pos, af, gd⟩ (.bool (decide (b < a))) := fun _ _ => by simp [execOp, go_sem, hx, hy]
theorem y_geq : Yield P w0 T ρ ⟨dst, .binOp .geq t x y yt, ty, pos, af, gd⟩ (.bool (decide (b ≤ a))) := fun _ _ => by simp [execOp, go_sem, hx, hy]
theorem y_eql : Yield P w0 T ρ ⟨dst, .binOp .eql t x y yt, ty, pos, af, gd⟩ (.bool (decide (a = b))) := fun _ _ => by
  simp only [execOp, go_sem, hx, hy]; simp; rfl
theorem y_neq : Yield P w0 T ρ ⟨dst, .binOp .neq t x y yt, ty, pos, af, gd⟩ (.bool (decide (a ≠ b))) := fun _ _ => by
  simp only [execOp, go_sem, hx, hy]; simp; cases h : decide (a = b) <;> simp_all
end
section
variable {a b : Int} (hx : ev ρ x = .int .i64 a) (hy : ev ρ y = .int .i64 b)
include hx hy
theorem y_add (hr : In64 (a + b)) : Yield P w0 T ρ ⟨dst, .binOp .add t x y yt, ty, pos, af, gd⟩ (.int .i64 (a + b)) := fun _ _ => by
  have h := wrap_in hr
  simp [execOp, go_sem, hx, hy, Op.intArith, h]
theorem y_sub (hr : In64 (a - b)) : Yield P w0 T ρ ⟨dst, .binOp .sub t x y yt, ty, pos, af, gd⟩ (.int .i64 (a - b)) := fun _ _ => by
  have h := wrap_in hr
  simp [execOp, go_sem, hx, hy, Op.intArith, h]
end
theorem y_not {b : Bool} (hx : ev ρ x = .bool b) : Yield P w0 T ρ ⟨dst, .unOp .not t x, ty, pos, af, gd⟩ (.bool (!b)) := fun _ _ => by
  simp [execOp, hx, Op.unary]
theorem y_len {e : TypeId} {A : Option Addr} {n c : Nat} (ht : P.underlying t = some (.slice e)) (hx : ev ρ x = .slice A n c) :
    Yield P w0 T ρ ⟨dst, .call { callee := .builtin .len, args := #[x], argTypes := #[t] }, ty, pos, af, gd⟩ (.int .i64 n) := fun w _ => by
  have : P.elem t = e := by simp [Program.elem, ht]
  have h := run_len_slice w t ty A n c (by rw [this]; exact ht)
  simp [execOp, resolve, invoke, builtin, hx, h, goInt]
theorem y_fieldAddr {i off : Nat} {p : Addr} (hf : ∀ (a : Addr) (w : World), (Instr.fieldAt t (.pointer (some a)) i).run P w = .ok (.pointer (some (a.add off))) w) (hx : ev ρ x = .pointer (some p)) :
    Yield P w0 T ρ ⟨dst, .fieldAddr t x i, ty, pos, af, gd⟩ (.pointer (some (p.add off))) := fun w _ => by
  simp [execOp, hx, hf]
theorem y_fieldAddr_box {i off b o : Nat} (hf : ∀ (a : Addr) (w : World), (Instr.fieldAt t (.pointer (some a)) i).run P w = .ok (.pointer (some (a.add off))) w) (hx : ev ρ x = .pointer (some ⟨b, o, none⟩)) :
    Yield P w0 T ρ ⟨dst, .fieldAddr t x i, ty, pos, af, gd⟩ (.pointer (some ⟨b, o + off, none⟩)) := fun w hM => by
  have h := y_fieldAddr (dst := dst) (ty := ty) (pos := pos) (af := af) (gd := gd) hf hx w hM
  rw [Addr.add_lit] at h; exact h
theorem add_add (a : Addr) (i j : Nat) : (a.add i).add j = a.add (i + j) := by
  unfold Addr.add
  by_cases hi : i = 0 <;> by_cases hj : j = 0 <;> simp [hi, hj, Nat.add_assoc]
theorem block_add (a : Addr) (n : Nat) : (a.add n).block = a.block := by unfold Addr.add; split <;> rfl
theorem y_fieldAddr_add {i off m : Nat} {p : Addr} (hf : ∀ (a : Addr) (w : World), (Instr.fieldAt t (.pointer (some a)) i).run P w = .ok (.pointer (some (a.add off))) w) (hx : ev ρ x = .pointer (some (p.add m))) :
    Yield P w0 T ρ ⟨dst, .fieldAddr t x i, ty, pos, af, gd⟩ (.pointer (some (p.add (m + off)))) := fun w hM => by
  have h := y_fieldAddr (dst := dst) (ty := ty) (pos := pos) (af := af) (gd := gd) hf hx w hM
  rw [add_add] at h; exact h
theorem y_indexAddr {e : TypeId} {s : Nat} {a : Addr} {len cap m : Nat} {i : Int} (ht : P.underlying t = some (.slice e)) (hs : ∀ w, (sizeOf e).run P w = .ok s w)
    (hx : ev ρ x = .slice (some a) len cap) {k : IntKind} (hi : ev ρ y = .int k i) (hm : i.toNat = m) (h0 : 0 ≤ i) (h1 : i < len) :
    Yield P w0 T ρ ⟨dst, .indexAddr t x y, ty, pos, af, gd⟩ (.pointer (some (a.add (m * s)))) := fun w _ => by
  have : P.elem t = e := by simp [Program.elem, ht]
  have h := run_indexAt_slice w t a len cap k i (by rw [this]; exact ht)
  rw [if_pos ⟨h0, h1⟩, this, hs] at h
  subst hm
  simp [execOp, hx, hi, h]
theorem y_indexAddr_arr {e : TypeId} {s : Nat} {b o len m : Nat} {i : Int} (ht : P.underlying t = some (.array len e)) (hs : ∀ w, (sizeOf e).run P w = .ok s w)
    (hx : ev ρ x = .pointer (some ⟨b, o, none⟩)) {k : IntKind} (hi : ev ρ y = .int k i) (hm : i.toNat = m) (h0 : 0 ≤ i) (h1 : i < len) :
    Yield P w0 T ρ ⟨dst, .indexAddr t x y, ty, pos, af, gd⟩ (.pointer (some ⟨b, o + m * s, none⟩)) := fun w _ => by
  have e1 : P.elem t = e := by simp [Program.elem, ht]
  have e2 : P.arrayLen t = len := by simp [Program.arrayLen, ht]
  have h := run_indexAt_array w t ⟨b, o, none⟩ k i (by rw [e1, e2]; exact ht)
  rw [e2, if_pos ⟨h0, h1⟩, e1, hs] at h
  subst hm
  simp only [execOp, hx, hi, Sem.run_bind, h, Result.andThen_ok, Sem.run_pure, Addr.add_lit]
theorem y_load {p : Addr} (ht : ∀ w, (isAgg t).run P w = .ok false w) (hx : ev ρ x = .pointer (some p)) (hc : Cell w0 T p v) :
    Yield P w0 T ρ ⟨dst, .load t x, ty, pos, af, gd⟩ v := fun w hM => by
  have := hc w hM
  simp [execOp, hx, Instr.loadAt, Instr.sureAddr, loadVar, ht, this]
theorem y_loads {p : Addr} {cs : List Value} {m : Nat} (ht : ∀ w, (isAgg t).run P w = .ok true w) (hs : ∀ w, (sizeOf t).run P w = .ok m w) (hl : cs.length = m) (hx : ev ρ x = .pointer (some p))
    (hc : ∀ j u, cs[j]? = some u → Cell w0 T (p.add j) u) : Yield P w0 T ρ ⟨dst, .load t x, ty, pos, af, gd⟩ (.agg cs.toArray) := fun w hM => by
  have h := run_loadCells_list (P := P) w p cs (fun j u hu => hc j u hu w hM)
  subst hl
  simp [execOp, hx, Instr.loadAt, Instr.sureAddr, loadVar, ht, hs, h]
theorem cells_box (i : Nat) {b : Nat} {cs : List Value} {e : TypeId} {fz : Nat × Nat} (hi : T[i]? = some (box b (.cells cs.toArray e fz))) :
    ∀ j u, cs[j]? = some u → Cell w0 T ((⟨b, 0, none⟩ : Addr).add j) u := fun j u hu => by
  rw [Addr.add_lit, Nat.zero_add]
  exact cell_box i hi (by simpa using hu)
theorem y_build {parts : Array (Nat × Operand)} {vs : List (Nat × Value)} {cells : Array Value} (hp : parts.toList.map (fun q => (q.1, ev ρ q.2)) = vs) (hb : P.built t vs = some cells) :
    Yield P w0 T ρ ⟨dst, .build t parts, ty, pos, af, gd⟩ (.agg cells) := fun w _ => by
  have h := run_build w t (parts.map fun q => (q.1, ev ρ q.2)) cells (by rw [Array.toList_map, hp]; exact hb)
  simp only [execOp, Sem.run_bind]
  have e : (parts.map fun (x : Nat × Operand) => match x with | (i, x) => (i, ev ρ x)) = parts.map fun q => (q.1, ev ρ q.2) := rfl
  rw [e, h]; rfl
theorem y_extract {vs : Array Value} {i : Nat} (hx : ev ρ x = .tuple vs) (hi : vs[i]? = some v) : Yield P w0 T ρ ⟨dst, .extract x i, ty, pos, af, gd⟩ v := fun _ _ => by
  simp [execOp, hx, Instr.extract, hi]
end
section
variable {P : Program} {n : Fr} {w0 : World} {N : Env → World → Prop} {ρ : Env} {T : List Reg} {full : Array Oper} {rest : List Oper} {d : Nat} {ty : TypeId} {pos : String} {af : Array Edge} {x y : Operand} {v : Value} {t : TypeId}
theorem mem_box (w : World) (hM : Mem w0 T w) (cs : Array Value) (e : TypeId) : Mem w0 (T ++ [box w.heap.size (.cells cs e)]) (w.alloc (.cells cs e)) :=
  hM.add ((Below.refl _ _).alloc (Nat.le_refl _) _) (heap_alloc_new w _) (fun b hb => by
    have hb' : b = w.heap.size := hb
    subst hb'; simp)
theorem gop_alloc {z : Value} {cs : Array Value} (hz : ∀ w, (zeroValue t).run P w = .ok z w) (hcs : z.cells = cs) (hlt : Nat.blt d n.n = true)
    (h : ∀ b, w0.heap.size ≤ b → gops P n w0 full rest N (upd ρ d (.pointer (some ⟨b, 0, none⟩))) (T ++ [box b (.cells cs t)])) :
    gops P n w0 full (⟨some d, .alloc t, ty, pos, af, none⟩ :: rest) N ρ T :=
  gop_w (fun w hM => ⟨.pointer (some ⟨w.heap.size, 0, none⟩), w.alloc (.cells cs t), by
      subst hcs; simp [execOp, Instr.alloc, hz, newVar, newRow], h w.heap.size hM.low.size _ (mem_box w hM cs t)⟩) rfl rfl hlt
theorem gop_box {cs : Array Value} (hx : ev ρ x = v) (hcs : v.cells = cs) (hlt : Nat.blt d n.n = true)
    (h : ∀ b, w0.heap.size ≤ b → gops P n w0 full rest N (upd ρ d (.pointer (some ⟨b, 0, none⟩))) (T ++ [box b (.cells cs t)])) :
    gops P n w0 full (⟨some d, .box t x, ty, pos, af, none⟩ :: rest) N ρ T :=
  gop_w (fun w hM => ⟨.pointer (some ⟨w.heap.size, 0, none⟩), w.alloc (.cells cs t), by
      subst hcs; subst hx; simp [execOp, Instr.box, newVar, newRow], h w.heap.size hM.low.size _ (mem_box w hM cs t)⟩) rfl rfl hlt
def putAt (cs : Array Value) (off : Nat) : List Value → Array Value
  | [] => cs
  | u :: us => putAt (cs.setIfInBounds off u) (off + 1) us
theorem run_storeCells {b off : Nat} {e : TypeId} : ∀ (us : List Value) (i : Nat) (cs : Array Value) (w : World), w.heap[b]? = some (.cells cs e (0, 0)) → (∀ u ∈ us, u.oneCell' = true) →
    off + i + us.length ≤ cs.size → ∃ w', (storeCells ⟨b, off, none⟩ us i).run P w = .ok () w' ∧ w'.heap[b]? = some (.cells (putAt cs (off + i) us) e (0, 0)) ∧ Chg (fun k => k = b) w w'
  | [], i, cs, w, hb, _, _ => ⟨w, rfl, hb, ⟨rfl, rfl, rfl, Nat.le_refl _, fun _ _ _ => rfl⟩⟩
  | u :: us, i, cs, w, hb, h1, hl => by
    have hl' : off + i < cs.size := by simp at hl; omega
    have hc : w.cell? ⟨b, off + i, none⟩ = some cs[off + i] := by simp [World.cell?, hb, hl']
    have hf : w.frozen? ⟨b, off + i, none⟩ = false := by simp [World.frozen?, hb]
    have hb' : (w.setCell ⟨b, off + i, none⟩ u).heap[b]? = some (.cells (cs.setIfInBounds (off + i) u) e (0, 0)) := by
      simp [World.setCell, Array.getElem?_modify, hb]
    obtain ⟨w', hr, hb2, hc2⟩ := run_storeCells (off := off) us (i + 1) _ _ hb' (fun z hz => h1 z (by simp [hz])) (by simp at hl ⊢; omega)
    refine ⟨w', ?_, hb2, (Chg.setCell w ⟨b, off + i, none⟩ u).trans hc2⟩
    have hst := run_store P w ⟨b, off + i, none⟩ u .plain (h1 u (by simp))
    simp only [storeCells, Sem.run_bind, Addr.add_lit]
    rw [hst]
    simp only [hc, hf]
    simpa using hr
theorem mem_store {i b off : Nat} {cs : Array Value} {e : TypeId} (us : List Value) (w : World) (hM : Mem w0 T w) (hi : T[i]? = some (box b (.cells cs e))) (h1 : ∀ u ∈ us, u.oneCell' = true)
    (hl : off + us.length ≤ cs.size) : ∃ w', (storeCells ⟨b, off, none⟩ us 0).run P w = .ok () w' ∧ Mem w0 (T.set i (box b (.cells (putAt cs off us) e))) w' := by
  have hb : w.heap[b]? = some (.cells cs e (0, 0)) := hM.ok _ (List.mem_of_getElem? hi)
  obtain ⟨w', hr, hb', hc⟩ := run_storeCells (P := P) (off := off) us 0 cs w hb h1 (by omega)
  have hlt : b < w.heap.size := hM.lt _ (List.mem_of_getElem? hi) b rfl
  exact ⟨w', hr, hM.upd hi hc hb' (fun k hk => ⟨.inl hk, by have hk' : k = b := hk; subst hk'; exact Nat.lt_of_lt_of_le hlt hc.size⟩)⟩
theorem gop_store (i : Nat) {b off m : Nat} {cs cs' : Array Value} {e : TypeId} {us : List Value} {T' : List Reg} (hx : ev ρ x = .pointer (some ⟨b, off, none⟩)) (hy : ev ρ y = v) (hs : ∀ w, (sizeOf t).run P w = .ok m w) (hv : v.cells.toList = us)
    (hm : us.length = m) (h1 : us.all Value.oneCell' = true) (hi : T[i]? = some (box b (.cells cs e))) (hl : off + m ≤ cs.size) (hcs : putAt cs off us = cs') (hT : T.set i (box b (.cells cs' e)) = T')
    (h : gops P n w0 full rest N ρ T') : gops P n w0 full (⟨none, .store t x y, ty, pos, af, none⟩ :: rest) N ρ T :=
  gop_s (fun w hM => by
    obtain ⟨w', hr, hM'⟩ := mem_store (P := P) (off := off) us w hM hi (by simpa [List.all_eq_true] using h1) (by omega)
    refine ⟨w', ?_, h w' (by subst hcs; subst hT; exact hM')⟩
    have hsz : v.cells.size = m := by rw [← Array.length_toList, hv, hm]
    simp [execOp, hx, hy, Instr.storeAt, Instr.sureAddr, storeVar, hs, hsz, hv, hr]) rfl rfl
end
end Go.Cf
namespace Go.Cf
open Go.RowKit
def Rdl {α : Type} (w : World) (lo size : Nat) (f : α → List Value) (A : Option Addr) (l : List α) : Prop :=
  0 < l.length → ∃ ad, A = some ad ∧ lo ≤ ad.block ∧ ∀ k x, l[k]? = some x → ∀ j u, (f x)[j]? = some u → w.cell? (ad.add (k * size + j)) = some u
section
variable {α : Type} {w w' w0 : World} {lo size : Nat} {f : α → List Value} {A : Option Addr} {l : List α} {T : List Reg}
theorem Rdl.nil : Rdl w lo size f A ([] : List α) := fun h => absurd h (by simp)
theorem Rdl.keep (h : Rdl w lo size f A l) (hk : ∀ p : Addr, lo ≤ p.block → p.block < w.heap.size → w'.cell? p = w.cell? p) : Rdl w' lo size f A l := fun hn => by
  obtain ⟨ad, e, hb, hc⟩ := h hn
  refine ⟨ad, e, hb, fun k x hx j u hu => ?_⟩
  have := hc k x hx j u hu
  exact (hk _ (by rw [block_add]; exact hb) (World.block_lt_of_cell? w _ this)).trans this
theorem Rdl.mono {lo' : Nat} (h : Rdl w lo size f A l) (hl : lo' ≤ lo) : Rdl w lo' size f A l := fun hn => by
  obtain ⟨ad, e, hb, hc⟩ := h hn
  exact ⟨ad, e, Nat.le_trans hl hb, hc⟩
theorem Rdl.base (h : Rdl w0 lo size f A l) (hM : Mem w0 T w) : Rdl w lo size f A l := h.keep fun _ _ hp => hM.low.cell hp
theorem Rdl.at_ {k : Nat} (h : Rdl w lo size f A l) (hk : k < l.length) : ∃ ad, A = some ad ∧ lo ≤ ad.block ∧ ∀ j u, (f l[k])[j]? = some u → w.cell? (ad.add (k * size + j)) = some u := by
  obtain ⟨ad, e, hb, hc⟩ := h (by omega)
  exact ⟨ad, e, hb, hc k l[k] (List.getElem?_eq_getElem hk)⟩
end
theorem cells_base {w0 : World} {T : List Reg} {ad : Addr} {m : Nat} {cs : List Value} (h : ∀ j u, cs[j]? = some u → w0.cell? (ad.add (m + j)) = some u) :
    ∀ j u, cs[j]? = some u → Cell w0 T ((ad.add m).add j) u := fun j u hu => by rw [add_add]; exact cell_base (h j u hu)
end Go.Cf
namespace Go.Cf
open Go.RowKit
def rowl {α : Type} (f : α → List Value) (base : Nat) (e : TypeId) (size : Nat) (v : Value) (l : List α) : Reg := row base e size v l.length (l.flatMap f)
def Src (w : World) (size : Nat) (A : Option Addr) (m : Nat) (news : List Value) : Prop :=
  news.length = m * size ∧ (0 < m → ∃ ad, A = some ad ∧ ∀ j u, news[j]? = some u → w.cell? (ad.add j) = some u)
def Wide {α : Type} (f : α → List Value) (size : Nat) : Prop := ∀ x, (f x).length = size ∧ ∀ u ∈ f x, u.oneCell' = true
theorem flat_len {α : Type} {f : α → List Value} {size : Nat} (hf : ∀ x, (f x).length = size) : ∀ l : List α, (l.flatMap f).length = l.length * size
  | [] => by simp
  | x :: l => by simp only [List.flatMap_cons, List.length_append, List.length_cons, flat_len hf l, hf x, Nat.add_mul]; omega
theorem flat_at {α : Type} {f : α → List Value} {size : Nat} (hf : ∀ x, (f x).length = size) : ∀ (l : List α) (k : Nat) (x : α), l[k]? = some x → ∀ j u, (f x)[j]? = some u → (l.flatMap f)[k * size + j]? = some u
  | [], _, _, h, _, _, _ => by simp at h
  | y :: l, 0, x, h, j, u, hu => by
    simp at h; subst h
    rw [List.flatMap_cons, Nat.zero_mul, Nat.zero_add, List.getElem?_append_left]
    · exact hu
    · rcases Nat.lt_or_ge j (f y).length with h1 | h1
      · exact h1
      · rw [List.getElem?_eq_none h1] at hu; cases hu
  | y :: l, k + 1, x, h, j, u, hu => by
    simp at h
    rw [List.flatMap_cons, List.getElem?_append_right (by rw [hf]; rw [Nat.add_mul]; omega), hf]
    have := flat_at hf l k x h j u hu
    rw [← this]; congr 1; rw [Nat.add_mul]; omega
theorem flat_inv {α : Type} {f : α → List Value} {size : Nat} (hf : ∀ x, (f x).length = size) : ∀ (l : List α) (i : Nat) (u : Value), (l.flatMap f)[i]? = some u → 0 < size ∧ ∃ k x j, l[k]? = some x ∧ (f x)[j]? = some u ∧ i = k * size + j
  | [], i, u, h => by simp at h
  | y :: l, i, u, h => by
    rw [List.flatMap_cons] at h
    rcases Nat.lt_or_ge i (f y).length with h1 | h1
    · rw [List.getElem?_append_left h1] at h
      exact ⟨by rw [← hf y]; omega, 0, y, i, rfl, h, by simp⟩
    · rw [List.getElem?_append_right h1, hf] at h
      obtain ⟨hp, k, x, j, hk, hu, he⟩ := flat_inv hf l _ u h
      rw [hf] at h1
      exact ⟨hp, k + 1, x, j, by simpa using hk, hu, by rw [Nat.add_mul]; omega⟩
theorem Rdl.src {α : Type} {w : World} {lo size : Nat} {f : α → List Value} {A : Option Addr} {l : List α} (h : Rdl w lo size f A l) (hf : ∀ x, (f x).length = size) : Src w size A l.length (l.flatMap f) :=
  ⟨flat_len hf l, fun hn => by
    obtain ⟨ad, e, _, hc⟩ := h hn
    refine ⟨ad, e, fun i u hu => ?_⟩
    obtain ⟨_, k, x, j, hk, hj, rfl⟩ := flat_inv hf l i u hu
    exact hc k x hk j u hj⟩
theorem Rdl.of_own {α : Type} {w : World} {base size n c : Nat} {e : TypeId} {f : α → List Value} {A : Option Addr} {l : List α} (hf : ∀ x, (f x).length = size) (h : w.ownsRow base e size (.slice A n c) l.length (l.flatMap f)) : Rdl w base size f A l := fun hn => by
  rcases h.2 with ⟨_, h2⟩ | ⟨g, cap, cur, hv, hb, hw⟩
  · omega
  · simp only [Value.slice.injEq] at hv
    obtain ⟨rfl, rfl, rfl⟩ := hv
    refine ⟨⟨g, 0, none⟩, rfl, hb, fun k x hx j u hu => ?_⟩
    exact h.cells (g := g) rfl _ u (flat_at hf l k x hx j u hu)
theorem own_form {w : World} {base size n : Nat} {e : TypeId} {v : Value} {xs : List Value} (h : w.ownsRow base e size v n xs) : ∃ A c, v = .slice A n c ∧ n ≤ c ∧ c ≤ maxLen := by
  rcases h.2 with ⟨rfl, rfl⟩ | ⟨g, cap, cur, rfl, _, _, h4, h5, _⟩
  · exact ⟨none, 0, rfl, Nat.le_refl _, by unfold maxLen; omega⟩
  · exact ⟨_, _, rfl, h4, h5⟩
theorem Mem.own {α : Type} {w0 w : World} {T : List Reg} (i : Nat) {base size : Nat} {e : TypeId} {f : α → List Value} {v : Value} {l : List α} (hM : Mem w0 T w) (hi : T[i]? = some (rowl f base e size v l)) : w.ownsRow base e size v l.length (l.flatMap f) :=
  hM.ok _ (List.mem_of_getElem? hi)
section
variable {P : Program} {n : Fr} {w0 : World} {N : Env → World → Prop} {X : Nat → Env → World → Prop} {R : Env → World → Prop} {ρ : Env} {T : List Reg} {full : Array Oper} {rest : List Oper} {d : Nat} {ty : TypeId} {pos : String} {af : Array Edge} {x y : Operand} {v : Value} {t : TypeId}
theorem mem_nilrow {α : Type} (f : α → List Value) (e : TypeId) (size : Nat) {w : World} (hM : Mem w0 T w) : Mem w0 (T ++ [rowl f w0.heap.size e size (.slice none 0 0) []]) w :=
  hM.add (Below.refl _ _) (World.ownsRow_nil w _ e size) (fun b hb => by cases hb)
theorem gnilrow {α : Type} (f : α → List Value) (e : TypeId) (size : Nat) {c : Code} (h : gwp P n w0 c N X R ρ (T ++ [rowl f w0.heap.size e size (.slice none 0 0) []])) : gwp P n w0 c N X R ρ T :=
  fun w hM => h w (mem_nilrow f e size hM)
theorem run_append_src {w : World} {base : Nat} {ty e : TypeId} {i : TypeInfo} {z : Value} {size bytes : Nat} (ht : P.underlying t = some (.slice e)) (hi : P.info? e = some i) (hz : i.zero = some z)
    (hsize : i.size = size) (hby : i.bytes = bytes) (hzs : z.cells.size = size) (hsz : 0 < size) {v : Value} {n : Nat} {xs : List Value} (hown : w.ownsRow base e size v n xs)
    {A : Option Addr} {m c : Nat} {news : List Value} (hs : Src w size A m news) (h1 : ∀ u ∈ news, u.oneCell' = true) (hA : A = none → c = 0)
    (h63 : n + m ≤ maxLen) (hbytes : (n + m) * bytes ≤ 140737488355328) (hbase : base ≤ w.heap.size) :
    ∃ v' w', (Builtin.append_ #[t, t] ty #[v, .slice A m c]).run P w = .ok v' w' ∧ w'.ownsRow base e size v' (n + m) (xs ++ news) ∧ w.grownBy w' v.ownBlock ∧ (v'.ownBlock = v.ownBlock ∨ v'.ownBlock = some w.heap.size) := by
  cases A with
  | none =>
    have hm : m = 0 := by
      rcases Nat.eq_zero_or_pos m with h0 | h0
      · exact h0
      · obtain ⟨ad, h, _⟩ := hs.2 h0; cases h
    subst hm
    have hn : news = [] := List.eq_nil_of_length_eq_zero (by simpa using hs.1)
    subst hn
    have hc := hA rfl
    subst hc
    exact ⟨v, w, run_append_owned_none w base t ty e i size ht hi v n xs hown, by simpa using hown, ⟨rfl, rfl, rfl, Nat.le_refl _, fun _ _ _ => rfl⟩, .inl rfl⟩
  | some ad =>
    have hcells : ∀ j u, news[j]? = some u → w.cell? (ad.add j) = some u := by
      intro j u hu
      rcases Nat.eq_zero_or_pos m with h0 | h0
      · subst h0
        have hn : news = [] := List.eq_nil_of_length_eq_zero (by simpa using hs.1)
        subst hn
        simp at hu
      · obtain ⟨ad', h, hc⟩ := hs.2 h0
        injection h with h
        subst h
        exact hc j u hu
    obtain ⟨v', w', hrun, h2, h3, _, h5⟩ := run_append_own_at (P := P) w base t ty e i z size bytes ht hi hz hsize hby hzs hsz v n xs hown ad m c news hs.1 hcells h1 h63 hbytes hbase
    exact ⟨v', w', hrun, h2, h3, h5⟩
def Elem (P : Program) (e : TypeId) (size bytes : Nat) : Prop := ∃ i z, P.info? e = some i ∧ i.zero = some z ∧ i.size = size ∧ i.bytes = bytes ∧ z.cells.size = size ∧ 0 < size
theorem elem_of {e : TypeId} {size bytes : Nat} {z : Value} (h : (P.info? e).map (fun i => (i.zero, i.size, i.bytes)) = some (some z, size, bytes)) (hz : z.cells.size = size) (hp : 0 < size) : Elem P e size bytes := by
  cases hi : P.info? e with
  | none => rw [hi] at h; cases h
  | some i =>
    rw [hi] at h
    simp only [Option.map_some, Option.some.injEq, Prod.mk.injEq] at h
    exact ⟨i, z, hi, h.1, h.2.1, h.2.2, hz, hp⟩
theorem mem_append {α : Type} {f : α → List Value} {size bytes : Nat} {e ty : TypeId} (i : Nat) (ht : P.underlying t = some (.slice e)) (he : Elem P e size bytes) (hf : Wide f size) {v : Value} {l l2 : List α}
    (hi : T[i]? = some (rowl f w0.heap.size e size v l)) {A : Option Addr} {m c : Nat} (hm : m = l2.length) (hA : A = none → c = 0)
    (h63 : l.length + l2.length ≤ maxLen) (hbytes : (l.length + l2.length) * bytes ≤ 140737488355328) (w : World) (hM : Mem w0 T w) (hs : Src w size A l2.length (l2.flatMap f)) :
    ∃ v' w', (Builtin.append_ #[t, t] ty #[v, .slice A m c]).run P w = .ok v' w' ∧ Mem w0 (T.set i (rowl f w0.heap.size e size v' (l ++ l2))) w' := by
  obtain ⟨ii, z, h1, h2, h3, h4, h5, h6⟩ := he
  have hown := hM.own i hi
  subst hm
  have hone : ∀ u ∈ l2.flatMap f, u.oneCell' = true := fun u hu => by
    obtain ⟨x, _, hx⟩ := List.mem_flatMap.1 hu; exact (hf x).2 u hx
  obtain ⟨v', w', hr, ho, hg, hb⟩ := run_append_src (P := P) (ty := ty) ht h1 h2 h3 h4 h5 h6 hown hs hone hA h63 hbytes hM.low.size
  refine ⟨v', w', hr, hM.upd hi (Chg.of_grownBy hg) ?_ ?_⟩
  · show w'.ownsRow _ _ _ _ (l ++ l2).length ((l ++ l2).flatMap f)
    rw [List.length_append, List.flatMap_append]; exact ho
  · intro b hbb
    have hbb' : v'.ownBlock = some b := hbb
    have hlt := (World.ownsRow.lt ho b hbb').2
    refine ⟨?_, hlt⟩
    rcases hb with hb | hb
    · left; show v.ownBlock = some b; rw [← hb]; exact hbb'
    · right; rw [hb] at hbb'; injection hbb' with hbb'; omega
theorem gop_append {α : Type} {f : α → List Value} {size bytes : Nat} {e : TypeId} (i : Nat) (ht : P.underlying t = some (.slice e)) (he : Elem P e size bytes) (hf : Wide f size) {v : Value} {l l2 : List α} {A : Option Addr} {m c : Nat}
    (hx : ev ρ x = v) (hy : ev ρ y = .slice A m c) (hi : T[i]? = some (rowl f w0.heap.size e size v l)) (hm : m = l2.length) (hA : A = none → c = 0)
    (h63 : l.length + l2.length ≤ maxLen) (hbytes : (l.length + l2.length) * bytes ≤ 140737488355328) (hs : ∀ w, Mem w0 T w → Src w size A l2.length (l2.flatMap f)) (hlt : Nat.blt d n.n = true)
    (h : ∀ v', gops P n w0 full rest N (upd ρ d v') (T.set i (rowl f w0.heap.size e size v' (l ++ l2)))) :
    gops P n w0 full (⟨some d, .call { callee := .builtin .append, args := #[x, y], argTypes := #[t, t] }, ty, pos, af, none⟩ :: rest) N ρ T :=
  gop_w (fun w hM => by
    obtain ⟨v', w', hr, hM'⟩ := mem_append (P := P) (ty := ty) i ht he hf hi hm hA h63 hbytes w hM (hs w hM)
    refine ⟨v', w', ?_, h v' w' hM'⟩
    simp only [execOp, resolve, invoke, builtin, Sem.run_bind, Sem.run_pure, Result.andThen_ok, List.map_toArray, List.map_cons, List.map_nil, hx, hy, hr]) rfl rfl hlt
theorem src_box (i : Nat) {b m size : Nat} {cs : List Value} {e : TypeId} (hi : T[i]? = some (box b (.cells cs.toArray e))) (hl : cs.length = m * size) : ∀ w, Mem w0 T w → Src w size (some ⟨b, 0, none⟩) m cs :=
  fun w hM => ⟨hl, fun _ => ⟨_, rfl, fun j u hu => cells_box i hi j u hu w hM⟩⟩
theorem gop_make {α : Type} {f : α → List Value} {size bytes : Nat} {e : TypeId} (a0 : α) {z : Value} (ht : P.underlying t = some (.slice e)) (hinfo : (P.info? e).map (fun i => (i.zero, i.size, i.bytes)) = some (some z, 1, bytes)) (hz : f a0 = [z]) (hzz : z.cells = #[z]) (hsz : size = 1) {k : Nat}
    (hx : ev ρ x = .int .i64 (k : Int)) (hy : ev ρ y = .int .i64 (k : Int)) (hb : bytes * k ≤ 281474976710656) (h63 : k ≤ maxLen) (hlt : Nat.blt d n.n = true)
    (h : ∀ b, w0.heap.size ≤ b → gops P n w0 full rest N (upd ρ d (.slice (some ⟨b, 0, none⟩) k k)) (T ++ [rowl f w0.heap.size e size (.slice (some ⟨b, 0, none⟩) k k) (List.replicate k a0)])) :
    gops P n w0 full (⟨some d, .makeSlice t x y, ty, pos, af, none⟩ :: rest) N ρ T :=
  gop_w (fun w hM => by
    subst hsz
    cases hi : P.info? e with
    | none => rw [hi] at hinfo; cases hinfo
    | some i =>
      rw [hi] at hinfo
      simp only [Option.map_some, Option.some.injEq, Prod.mk.injEq] at hinfo
      obtain ⟨i1, i2, i3⟩ := hinfo
      obtain ⟨w', hr, ho, hg⟩ := run_make_full (P := P) w w0.heap.size t e i z 1 ht hi i1 i2 .i64 .i64 k (by rw [i3]; exact hb) h63 hM.low.size
      refine ⟨_, w', by simp [execOp, hx, hy, hr], h w.heap.size hM.low.size w' (hM.add ⟨hg.os, hg.tape, hg.output, hg.size, fun j hj => hg.block j hj (by simp)⟩ ?_ ?_)⟩
      · show w'.ownsRow _ _ _ _ (List.replicate k a0).length ((List.replicate k a0).flatMap f)
        have e1 : (List.replicate k a0).flatMap f = (madeCells z.cells (k * 1)).toList := by
          rw [hzz, Nat.mul_one, toList_madeCells_one]
          clear hr ho hg hb h63 hx hy h
          induction k with
          | zero => rfl
          | succ k ih => rw [List.replicate_succ, List.flatMap_cons, hz, ih, List.replicate_succ]; rfl
        rw [List.length_replicate, e1]
        exact ho
      · intro b hbb
        have hbb' : some w.heap.size = some b := hbb
        injection hbb' with hbb'
        subst hbb'
        exact ⟨Nat.le_refl _, (World.ownsRow.lt ho _ rfl).2⟩) rfl rfl hlt
end
section
variable {P : Program} {ρ : Env} {dst : Option Tmp} {ty : TypeId} {pos : String} {af : Array Edge} {gd : Option (Nat × Bool)} {x : Operand}
theorem e_call {f : FuncId} {fn : Func} {args : Array Operand} {ats : Array TypeId} {vs : List Value} (hf : P.funcs[f]? = some fn) (hb : fn.body.isSome = true) (hnm : (fn.name == "runtime.NumGoroutine") = false) (ha : args.toList.map (ev ρ) = vs) (w : World) :
    (execOp (ev ρ) ⟨dst, .call { callee := .value (.func f), args := args, argTypes := ats }, ty, pos, af, gd⟩).run P w = .ok (.enter f vs.toArray) w := by
  have e : args.map (ev ρ) = vs.toArray := by rw [← ha, ← Array.toList_map, Array.toArray_toList]
  obtain ⟨c, hc⟩ := Option.isSome_iff_exists.1 hb
  have hnm' : ¬ fn.name = "runtime.NumGoroutine" := by simpa using hnm
  simp [execOp, resolve, Deferred.ofValue, ev, invoke, callFunc, e, hf, hc, hnm']
end
end Go.Cf
namespace Go.Cf
open Go.RowKit
def Weak (w0 : World) (T TS : List Reg) : Prop := ∀ w, Mem w0 T w → Mem w0 TS w
theorem weak_refl {w0 : World} {T : List Reg} : Weak w0 T T := fun _ h => h
theorem weak_room {w0 : World} {T : List Reg} (i : Nat) {b m : Nat} {e : TypeId} {cs : Array Value} (hi : T[i]? = some (box b (.cells cs e))) (hm : cs.size = m) : Weak w0 T (T.set i (room b e m)) := fun w hM => by
  have hb : w.heap[b]? = some (.cells cs e (0, 0)) := hM.ok _ (List.mem_of_getElem? hi)
  exact hM.upd hi (Chg.of_below (Below.refl _ _)) ⟨cs, hm, hb⟩ (fun k hk => ⟨.inl hk, hM.lt _ (List.mem_of_getElem? hi) k hk⟩)
theorem weak_trans {w0 : World} {A B C : List Reg} (h : Weak w0 A B) (k : Weak w0 B C) : Weak w0 A C := fun w hM => k w (h w hM)
section
variable {P : Program} {n : Fr} {w0 : World} {N : Env → World → Prop} {X : Nat → Env → World → Prop} {R : Env → World → Prop} {ρ : Env} {T TS : List Reg}
  {full : Array Oper} {l : List Oper} {o : Oper} {v : Value} {d k : Nat} {listed listed' : Array Bool}
variable {ty t : TypeId} {pos : String} {af : Array Edge} {gd : Option (Nat × Bool)} {x y : Operand} {dst : Option Tmp}
theorem run_bslice {e : TypeId} {len s : Nat} {parts : Array (Nat × Operand)} {vs : List (Nat × Value)} {cells : Array Value} {z : Value} (ht : P.underlying t = some (.slice e)) (hs : ∀ w, (sizeOf e).run P w = .ok s w)
    (hz : ∀ w, (zeroValue e).run P w = .ok z w) (hp : parts.toList.map (fun q => (q.1, ev ρ q.2)) = vs) (hsm : len * s ≤ 2 ^ 24) (hpos : len * s ≠ 0)
    (hfill : Instr.fill (fun i => some (i * s, s)) ((Array.range (len * s)).map (z.cells[· % z.cells.size]!)) vs = some cells) (w : World) :
    (execOp (ev ρ) ⟨dst, .buildSlice t len parts, ty, pos, af, gd⟩).run P w = .ok (.value (.slice (some ⟨w.heap.size, 0, none⟩) len len)) (w.alloc (.cells cells e)) := by
  have e1 : (parts.map fun (x : Nat × Operand) => match x with | (i, x) => (i, ev ρ x)).toList = vs := by rw [Array.toList_map, ← hp]
  have h24 : ¬ (2 : Nat) ^ 24 < len * s := by omega
  simp only [execOp, Instr.buildSlice, Sem.run_bind, run_underlying ht, Result.andThen_ok, hs]
  simp only [gt_iff_lt, if_neg h24, if_neg hpos, Sem.run_bind, hz, Result.andThen_ok, Sem.run_pure, e1, hfill, newRow, run_newObj]
  rfl
theorem gop_bslice {rest : List Oper} {e : TypeId} {len s : Nat} {parts : Array (Nat × Operand)} {vs : List (Nat × Value)} {cells : Array Value} {z : Value} (ht : P.underlying t = some (.slice e)) (hs : ∀ w, (sizeOf e).run P w = .ok s w)
    (hz : ∀ w, (zeroValue e).run P w = .ok z w) (hp : parts.toList.map (fun q => (q.1, ev ρ q.2)) = vs) (hsm : len * s ≤ 2 ^ 24) (hpos : len * s ≠ 0)
    (hfill : Instr.fill (fun i => some (i * s, s)) ((Array.range (len * s)).map (z.cells[· % z.cells.size]!)) vs = some cells) (hlt : Nat.blt d n.n = true)
    (h : ∀ b, w0.heap.size ≤ b → gops P n w0 full rest N (upd ρ d (.slice (some ⟨b, 0, none⟩) len len)) (T ++ [box b (.cells cells e)])) :
    gops P n w0 full (⟨some d, .buildSlice t len parts, ty, pos, af, none⟩ :: rest) N ρ T :=
  gop_w (fun w hM => ⟨_, _, run_bslice ht hs hz hp hsm hpos hfill w, h w.heap.size hM.low.size _ (mem_box w hM cells e)⟩) rfl rfl hlt
theorem y_slice_lo {e : TypeId} {s : Nat} {A : Option Addr} {len cap : Nat} {lo : Int} {kl : IntKind} {y : Operand} (ht : P.underlying t = some (.slice e)) (hs : ∀ w, (sizeOf e).run P w = .ok s w)
    (hx : ev ρ x = .slice A len cap) (hy : ev ρ y = .int kl lo) (h0 : 0 ≤ lo) (h1 : lo ≤ len) :
    Yield P w0 T ρ ⟨dst, .slice t x (some y) none none, ty, pos, af, gd⟩ (sliced A lo.toNat len cap s) := fun w _ => by
  have he : P.elem t = e := by simp [Program.elem, ht]
  have h := run_slice_l (P := P) w t A len cap (by rw [he]; exact ht) kl lo h0 h1
  have h' := run_sliceAt_slice (P := P) w t (.slice A len cap) (some (.int kl lo)) none none (by rw [he]; exact ht)
  rw [he, hs] at h
  simp [execOp, hx, hy, h', h]
theorem y_slice_hi {e : TypeId} {s : Nat} {A : Option Addr} {len cap : Nat} {hi : Int} {kh : IntKind} {z : Operand} (ht : P.underlying t = some (.slice e)) (hs : ∀ w, (sizeOf e).run P w = .ok s w)
    (hx : ev ρ x = .slice A len cap) (hz : ev ρ z = .int kh hi) (h0 : 0 ≤ hi) (h2 : hi ≤ cap) :
    Yield P w0 T ρ ⟨dst, .slice t x none (some z) none, ty, pos, af, gd⟩ (sliced A 0 hi.toNat cap s) := fun w _ => by
  have he : P.elem t = e := by simp [Program.elem, ht]
  have h := run_slice_h (P := P) w t A len cap (by rw [he]; exact ht) kh hi h0 h2
  have h' := run_sliceAt_slice (P := P) w t (.slice A len cap) none (some (.int kh hi)) none (by rw [he]; exact ht)
  rw [he, hs] at h
  simp [execOp, hx, hz, h', h]
end
end Go.Cf
namespace Go.Cf
open Go.RowKit
def setL (T : List Reg) : List (Nat × Reg) → List Reg
  | [] => T
  | (i, r) :: l => (setL T l).set i r
section
variable {P : Program} {n : Fr} {w0 : World} {N : Env → World → Prop} {X : Nat → Env → World → Prop} {R : Env → World → Prop} {ρ : Env} {T : List Reg}
theorem agree_upd2 (σ : Env) (Lf Lv : List (Nat × Value)) (h1 : agree σ Lf) (h2 : agree σ Lv) : updL (updL σ Lf) Lv = σ := by
  rw [updL_self σ Lf h1, updL_self σ Lv h2]
theorem gfrom2 {c : Code} (Lv Lf : List (Nat × Value)) (hv : agree ρ Lv) (hf : agree ρ Lf) (h : ∀ σ, gwp P n w0 c N X R (updL (updL σ Lf) Lv) T) : gwp P n w0 c N X R ρ T := by
  have := h ρ
  rwa [agree_upd2 ρ Lf Lv hf hv] at this
theorem gT {c : Code} (T' : List Reg) (hT : T = T') (h : gwp P n w0 c N X R ρ T') : gwp P n w0 c N X R ρ T := by subst hT; exact h
theorem gloop2 {c : Code} {σ0 : Env} {Lf Lv : List (Nat × Value)} {G : Type} (φ : G → Prop) (μ : G → Nat) (L : G → List (Nat × Value)) (S : G → List (Nat × Reg)) (g0 : G) (h0 : φ g0)
    (hL : agree (updL (updL σ0 Lf) Lv) (L g0)) (hF : agree (updL (updL σ0 Lf) Lv) Lf) (hT : setL T (S g0) = T)
    (round : ∀ g, φ g → ∀ σ, gwp P n w0 c (fun ρ' w' => ∃ g', μ g' < μ g ∧ φ g' ∧ agree ρ' (L g') ∧ agree ρ' Lf ∧ Mem w0 (setL T (S g')) w') X R (updL (updL σ Lf) (L g)) (setL T (S g))) :
    gwp P n w0 (.loop c) N X R (updL (updL σ0 Lf) Lv) T := by
  intro w hM
  refine cwp_loop (fun m ρ w => ∃ g, μ g = m ∧ φ g ∧ agree ρ (L g) ∧ agree ρ Lf ∧ Mem w0 (setL T (S g)) w) (μ g0) ⟨g0, rfl, h0, hL, hF, by rw [hT]; exact hM⟩ ?_
  rintro m ρ1 w1 ⟨g, rfl, hφ, hL1, hF1, hM1⟩
  have h := round g hφ ρ1 w1 hM1
  rw [agree_upd2 ρ1 Lf _ hF1 hL1] at h
  intro a ha
  refine cw_mono (h a ha) fun e a' w' q => ?_
  cases e with
  | normal =>
    obtain ⟨ρ', hI, g', hlt, hφ', hL', hF', hM'⟩ := q
    exact ⟨ρ', hI, μ g', hlt, g', rfl, hφ', hL', hF', hM'⟩
  | exit i => exact q
  | ret => exact q
  | goto l => exact q
  | panic c => exact q
  | outgrown => exact q
theorem gnext2 {T0 : List Reg} {Lf : List (Nat × Value)} {G : Type} {φ : G → Prop} {μ : G → Nat} {L : G → List (Nat × Value)} {S : G → List (Nat × Reg)} {m : Nat} (g : G) (hlt : μ g < m) (hφ : φ g) (hL : agree ρ (L g)) (hF : agree ρ Lf)
    (hT : ∃ extra, T = setL T0 (S g) ++ extra) :
    Fin w0 (fun ρ' w' => ∃ g', μ g' < m ∧ φ g' ∧ agree ρ' (L g') ∧ agree ρ' Lf ∧ Mem w0 (setL T0 (S g')) w') ρ T := fun _ hM => by
  obtain ⟨extra, hT⟩ := hT
  rw [hT] at hM
  exact ⟨g, hlt, hφ, hL, hF, hM.sub (List.sublist_append_left _ _)⟩
theorem gcut2 {c : Code} {Lf : List (Nat × Value)} {G : Type} (φ : G → Prop) (L : G → List (Nat × Value)) (T' : G → List Reg) (_hf0 : agree ρ Lf)
    (h1 : gwp P n w0 c (fun ρ' w' => ∃ g, φ g ∧ agree ρ' (L g) ∧ agree ρ' Lf ∧ Mem w0 (T' g) w') X R ρ T)
    (h2 : ∀ g, φ g → ∀ σ, Fin w0 N (updL (updL σ Lf) (L g)) (T' g)) : gwp P n w0 c N X R ρ T := by
  intro w hM a ha
  refine cw_mono (h1 w hM a ha) fun e a' w' q => ?_
  cases e with
  | normal =>
    obtain ⟨ρ', hI, g, hφ, hL, hF, hM'⟩ := q
    exact ⟨ρ', hI, by have := h2 g hφ ρ' w' hM'; rwa [agree_upd2 ρ' _ _ hF hL] at this⟩
  | exit i => exact q
  | ret => exact q
  | goto l => exact q
  | panic c => exact q
  | outgrown => exact q
theorem gcut2_end {Lf : List (Nat × Value)} {G : Type} {φ : G → Prop} {L : G → List (Nat × Value)} {T' : G → List Reg} (g : G) (hφ : φ g) (hL : agree ρ (L g)) (hF : agree ρ Lf) (hT : ∃ extra, T = T' g ++ extra) :
    Fin w0 (fun ρ' w' => ∃ g, φ g ∧ agree ρ' (L g) ∧ agree ρ' Lf ∧ Mem w0 (T' g) w') ρ T := fun _ hM => by
  obtain ⟨extra, hT⟩ := hT
  rw [hT] at hM
  exact ⟨g, hφ, hL, hF, hM.sub (List.sublist_append_left _ _)⟩
def ResV (P : Program) (ρ : Env) (w : World) : ResultVar → Value → Prop
  | .tmp t, v => ρ t = v
  | .cell a t, v => ∃ p, ρ a = .pointer (some p) ∧ (loadVar t p).run P w = .ok v w
theorem resV_run {w : World} {r : ResultVar} {v : Value} (h : ResV P ρ w r v) (tmps : Array Value) (ht : ∀ t, tmps.getD t undef = ρ t) :
    ((match r with | .tmp t => pure (tmps.getD t undef) | .cell a t => do loadVar t (← asAddr (tmps.getD a undef)) : Sem Value)).run P w = .ok v w := by
  cases r with
  | tmp t => have h' : ρ t = v := h; simp [ht, h']
  | cell a t => obtain ⟨p, h1, h2⟩ := h; simp [ht, h1, asAddr, h2]
theorem res1 {fn : Func} {w : World} {r : ResultVar} {v : Value} (hr : fn.results = #[r]) (h : ResV P ρ w r v) : resOf P fn ρ w v := fun tmps ht => by
  have h1 := resV_run h tmps ht
  cases r <;> simp_all [results]
theorem res2 {fn : Func} {w : World} {r s : ResultVar} {v u : Value} (hr : fn.results = #[r, s]) (h : ResV P ρ w r v) (h' : ResV P ρ w s u) : resOf P fn ρ w (.tuple #[v, u]) := fun tmps ht => by
  cases r <;> cases s <;> (try obtain ⟨p, hp, hl⟩ := h) <;> (try obtain ⟨p', hp', hl'⟩ := h') <;> simp_all [results, asAddr]
theorem rt {w : World} {t : Nat} {v : Value} (h : ρ t = v) : ResV P ρ w (.tmp t) v := h
theorem rc {w : World} (i : Nat) {a b : Nat} {t e : TypeId} {cs : List Value} (hM : Mem w0 T w) (hp : ρ a = .pointer (some ⟨b, 0, none⟩)) (hi : T[i]? = some (box b (.cells cs.toArray e))) {m : Nat} (ht : ∀ w, (isAgg t).run P w = .ok true w) (hs : ∀ w, (sizeOf t).run P w = .ok m w) (hl : cs.length = m) :
    ResV P ρ w (.cell a t) (.agg cs.toArray) := by
  subst hl
  refine ⟨_, hp, ?_⟩
  have h := run_loadCells_list (P := P) w ⟨b, 0, none⟩ cs (fun j u hu => cells_box i hi j u hu w hM)
  simp [loadVar, ht, hs, h]
end
section
variable {P : Program} {n : Fr} {w0 : World} {N : Env → World → Prop} {ρ : Env} {T : List Reg} {full : Array Oper} {rest : List Oper} {o : Oper} {d : Nat}
theorem gop_if {j s : Nat} {b want : Bool} (hgd : o.guard = some (j, want)) (hs : (full[j]?).bind (·.dst) = some s) (hlt : Nat.blt s n.n = true) (hv : ρ s = .bool b)
    (hd : o.dst = some d) (hlt' : Nat.blt d n.n = true) (h1 : b = want → gops P n w0 full (bare o :: rest) N ρ T) (h2 : b = !want → gops P n w0 full rest N (upd ρ d undef) T) : gops P n w0 full (o :: rest) N ρ T := by
  by_cases hb : b = want
  · exact gop_on hgd hs hlt hv hb (h1 hb)
  · have hb' : b = !want := by cases b <;> cases want <;> simp_all
    exact gop_off hgd hs hlt hv hb' hd hlt' (h2 hb')
end
end Go.Cf
namespace Go.Cf
open Go.RowKit
theorem flat_extract {α : Type} {f : α → List Value} {size : Nat} (hf : ∀ x, (f x).length = size) : ∀ (l : List α) (k : Nat) (x : α), l[k]? = some x → ((l.flatMap f).drop (k * size)).take size = f x
  | [], _, _, h => by simp at h
  | y :: l, 0, x, h => by
    simp at h; subst h
    rw [List.flatMap_cons, Nat.zero_mul, List.drop_zero, List.take_append_of_le_length (by rw [hf]; omega), List.take_of_length_le (by rw [hf]; omega)]
  | y :: l, k + 1, x, h => by
    simp at h
    rw [List.flatMap_cons, List.drop_append, List.drop_of_length_le (by rw [hf, Nat.add_mul]; omega), List.nil_append, hf]
    have e : (k + 1) * size - size = k * size := by rw [Nat.add_mul]; omega
    rw [e]; exact flat_extract hf l k x h
def setCells (cs : List Value) (off : Nat) : List Value → List Value
  | [] => cs
  | u :: us => setCells (cs.set off u) (off + 1) us
theorem putAt_list : ∀ (us : List Value) (cs : List Value) (off : Nat), putAt cs.toArray off us = (setCells cs off us).toArray
  | [], _, _ => rfl
  | u :: us, cs, off => by
    show putAt (cs.toArray.setIfInBounds off u) (off + 1) us = _
    rw [List.setIfInBounds_toArray]; exact putAt_list us _ _
theorem setCells_flat {α : Type} {f : α → List Value} {size : Nat} (hf : ∀ x, (f x).length = size) (l : List α) (k : Nat) (y : α) (hk : l[k]? = some y) : ∀ (us : List Value) (i : Nat) (l' : List Value), i + us.length ≤ size → l'.length = (l.flatMap f).length →
    setCells l' (k * size + i) us = (l'.take (k * size)) ++ setCells ((l'.drop (k * size)).take size) i us ++ l'.drop (k * size + size)
  | [], i, l', _, hl => by
    show l' = _ ++ ((l'.drop _).take size) ++ _
    rw [List.append_assoc, ← List.drop_drop, List.take_append_drop, List.take_append_drop]
  | u :: us, i, l', hi, hl => by
    have hkl : k < l.length := by
      rcases Nat.lt_or_ge k l.length with h | h
      · exact h
      · rw [List.getElem?_eq_none h] at hk; cases hk
    have hsz : k * size + size ≤ l'.length := by
      rw [hl, flat_len hf]
      have : (k + 1) * size ≤ l.length * size := Nat.mul_le_mul_right _ hkl
      rw [Nat.add_mul] at this; omega
    simp at hi
    show setCells (l'.set (k * size + i) u) (k * size + i + 1) us = _ ++ setCells (((l'.drop (k * size)).take size).set i u) (i + 1) us ++ _
    rw [Nat.add_assoc, setCells_flat hf l k y hk us (i + 1) _ (by omega) (by simp [hl])]
    have e1 : (l'.set (k * size + i) u).take (k * size) = l'.take (k * size) := by rw [List.take_set_of_le (by omega)]
    have e2 : ((l'.set (k * size + i) u).drop (k * size)).take size = ((l'.drop (k * size)).take size).set i u := by
      rw [List.drop_set, if_neg (by omega), Nat.add_sub_cancel_left, List.take_set]
    have e3 : (l'.set (k * size + i) u).drop (k * size + size) = l'.drop (k * size + size) := by rw [List.drop_set_of_lt (by omega)]
    rw [e1, e2, e3]
theorem flat_parts {α : Type} {f : α → List Value} {size : Nat} (hf : ∀ x, (f x).length = size) (l : List α) (k : Nat) (x : α) (hk : k < l.length) :
    (l.set k x).flatMap f = (l.flatMap f).take (k * size) ++ f x ++ (l.flatMap f).drop (k * size + size) := by
  have e1 : ∀ (l : List α) (k : Nat), k ≤ l.length → (l.flatMap f).take (k * size) = (l.take k).flatMap f ∧ (l.flatMap f).drop (k * size) = (l.drop k).flatMap f := by
    intro l k hkl
    have h1 : l.flatMap f = (l.take k).flatMap f ++ (l.drop k).flatMap f := by rw [← List.flatMap_append, List.take_append_drop]
    have h2 : ((l.take k).flatMap f).length = k * size := by rw [flat_len hf, List.length_take, Nat.min_eq_left hkl]
    rw [h1, ← h2]
    exact ⟨List.take_left, List.drop_left⟩
  have e2 : k * size + size = (k + 1) * size := by rw [Nat.add_mul]; omega
  rw [e2, (e1 l k (by omega)).1, (e1 l (k + 1) (by omega)).2, List.set_eq_take_append_cons_drop, if_pos hk, List.flatMap_append, List.flatMap_cons, List.append_assoc]
theorem flat_put {α : Type} {f : α → List Value} {size : Nat} (hf : ∀ x, (f x).length = size) {l : List α} {k : Nat} {y x : α} (hk : l[k]? = some y) {us : List Value} {i : Nat} (hi : i + us.length ≤ size) (he : setCells (f y) i us = f x) :
    setCells (l.flatMap f) (k * size + i) us = (l.set k x).flatMap f := by
  have hkl : k < l.length := by
    rcases Nat.lt_or_ge k l.length with h | h
    · exact h
    · rw [List.getElem?_eq_none h] at hk; cases hk
  rw [setCells_flat hf l k y hk us i _ hi rfl, flat_extract hf l k y hk, he, flat_parts hf l k x hkl]
section
variable {P : Program} {n : Fr} {w0 : World} {N : Env → World → Prop} {ρ : Env} {T : List Reg} {full : Array Oper} {rest : List Oper} {dst : Option Tmp} {d : Nat} {ty : TypeId} {pos : String} {af : Array Edge} {gd : Option (Nat × Bool)} {x y : Operand} {v : Value} {t : TypeId}
theorem run_storeRow {base size nn cap g : Nat} {e : TypeId} {off : Nat} : ∀ (us : List Value) (i : Nat) (xs : List Value) (w : World), w.ownsRow base e size (.slice (some ⟨g, 0, none⟩) nn cap) nn xs → (∀ u ∈ us, u.oneCell' = true) →
    off + i + us.length ≤ nn * size → ∃ w', (storeCells ⟨g, off, none⟩ us i).run P w = .ok () w' ∧ w'.ownsRow base e size (.slice (some ⟨g, 0, none⟩) nn cap) nn (setCells xs (off + i) us) ∧ Chg (fun k => k = g) w w'
  | [], i, xs, w, hb, _, _ => ⟨w, rfl, hb, ⟨rfl, rfl, rfl, Nat.le_refl _, fun _ _ _ => rfl⟩⟩
  | u :: us, i, xs, w, hb, h1, hl => by
    have hl' : off + i < nn * size := by simp at hl; omega
    have hxl : off + i < xs.length := by rw [hb.1]; exact hl'
    have hc : w.cell? ⟨g, off + i, none⟩ = some xs[off + i] := by rw [hb.cellAt _ hl', List.getElem?_eq_getElem hxl]
    have hf := hb.frozenAt (off + i)
    obtain ⟨ho, hg⟩ := hb.stored (off + i) u
    obtain ⟨w', hr, ho2, hc2⟩ := run_storeRow (off := off) us (i + 1) _ _ ho (fun z hz => h1 z (by simp [hz])) (by simp at hl; omega)
    refine ⟨w', ?_, ho2, (Chg.setCell w ⟨g, off + i, none⟩ u).trans hc2⟩
    have hst := run_store P w ⟨g, off + i, none⟩ u .plain (h1 u (by simp))
    simp only [storeCells, Sem.run_bind, Addr.add_lit]
    rw [hst]
    simp only [hc, hf]
    simpa using hr
theorem gop_store_row (i : Nat) {α : Type} {f : α → List Value} {l : List α} {size base g nn cap m k o off : Nat} {e : TypeId} {us : List Value} {T' : List Reg} (hf : ∀ x, (f x).length = size) (hx : ev ρ x = .pointer (some ((⟨g, 0, none⟩ : Addr).add off))) (hoff : off = k * size + o) (hy : ev ρ y = v)
    (hs : ∀ w, (sizeOf t).run P w = .ok m w) (hv : v.cells.toList = us) (hm : us.length = m) (h1 : us.all Value.oneCell' = true) (hi : T[i]? = some (rowl f base e size (.slice (some ⟨g, 0, none⟩) nn cap) l)) (hn : nn = l.length) {a a' : α} (hk : l[k]? = some a) (hl : o + m ≤ size) (he : setCells (f a) o us = f a')
    (hT : T.set i (rowl f base e size (.slice (some ⟨g, 0, none⟩) nn cap) (l.set k a')) = T') (h : gops P n w0 full rest N ρ T') : gops P n w0 full (⟨none, .store t x y, ty, pos, af, none⟩ :: rest) N ρ T := by
  have hkl : k < l.length := by
    rcases Nat.lt_or_ge k l.length with h | h
    · exact h
    · rw [List.getElem?_eq_none h] at hk; cases hk
  have hsz : k * size + size ≤ l.length * size := by
    have : (k + 1) * size ≤ l.length * size := Nat.mul_le_mul_right _ hkl
    rw [Nat.add_mul] at this; omega
  refine gop_s (fun w hM => ?_) rfl rfl
  subst hn
  have hown := hM.own i hi
  obtain ⟨w', hr, ho, hc⟩ := run_storeRow (P := P) (off := off) us 0 _ w hown (by simpa [List.all_eq_true] using h1) (by rw [hoff]; omega)
  have hM' : Mem w0 T' w' := by
    subst hT
    refine hM.upd hi ⟨hc.os, hc.tape, hc.output, hc.size, fun j hj hn => hc.block j hj (fun e => hn (by rw [e]; rfl))⟩ ?_ ?_
    · show w'.ownsRow _ _ _ _ (l.set k a').length ((l.set k a').flatMap f)
      rw [List.length_set, ← flat_put hf hk (by omega) he, ← hoff]
      exact ho
    · intro b hb
      have hb' : some g = some b := hb
      injection hb' with hb'
      subst hb'
      exact ⟨.inl rfl, Nat.lt_of_lt_of_le (hM.lt _ (List.mem_of_getElem? hi) g rfl) hc.size⟩
  refine ⟨w', ?_, h w' hM'⟩
  have hsz : v.cells.size = m := by rw [← Array.length_toList, hv, hm]
  rw [Addr.add_lit, Nat.zero_add] at hx
  simp [execOp, hx, hy, Instr.storeAt, Instr.sureAddr, storeVar, hs, hsz, hv, hr]
theorem setCells_mid : ∀ (us pre mid post : List Value), mid.length = us.length → setCells (pre ++ mid ++ post) pre.length us = pre ++ us ++ post
  | [], pre, mid, post, h => by
    have : mid = [] := List.eq_nil_of_length_eq_zero h
    subst this; rfl
  | u :: us, pre, [], post, h => by simp at h
  | u :: us, pre, p :: mid, post, h => by
    show setCells ((pre ++ p :: mid ++ post).set pre.length u) (pre.length + 1) us = _
    have e : (pre ++ p :: mid ++ post).set pre.length u = (pre ++ [u]) ++ mid ++ post := by
      rw [List.append_assoc, List.set_append_right _ _ (Nat.le_refl _), Nat.sub_self]; simp
    have e2 : pre.length + 1 = (pre ++ [u]).length := by simp
    rw [e, e2, setCells_mid us (pre ++ [u]) mid post (by simpa using h)]; simp
theorem flat_one {α : Type} {f : α → List Value} {s : Nat} (hf : Wide f s) (l : List α) : (l.flatMap f).all Value.oneCell' = true := by
  rw [List.all_eq_true]; intro u hu
  obtain ⟨x, _, hx⟩ := List.mem_flatMap.1 hu; exact (hf x).2 u hx
theorem Rdl.of_box {w : World} (i : Nat) {α : Type} {f : α → List Value} {l : List α} {size b : Nat} {e : TypeId} {cs : Array Value} (hf : ∀ x, (f x).length = size) (hM : Mem w0 T w) (hi : T[i]? = some (box b (.cells cs e))) (hl : (l.flatMap f).toArray = cs) : Rdl w w0.heap.size size f (some ⟨b, 0, none⟩) l := fun _ => by
  subst hl
  exact ⟨_, rfl, hM.ge _ (List.mem_of_getElem? hi) b rfl, fun k x hx j u hu => cells_box i hi _ u (flat_at hf l k x hx j u hu) w hM⟩
end
end Go.Cf
namespace Go.Cf
def numbered : Nat → List Value → List (Nat × Value)
  | _, [] => []
  | k, v :: vs => (k, v) :: numbered (k + 1) vs
theorem foldl_put (off : Nat) : ∀ (us : List Value) (j : Nat) (cs : Array Value), (us.zipIdx j).foldl (fun cs (p : Value × Nat) => cs.setIfInBounds (off + p.2) p.1) cs = putAt cs (off + j) us
  | [], _, _ => rfl
  | u :: us, j, cs => by
    rw [List.zipIdx_cons, List.foldl_cons, foldl_put off us (j + 1)]; rfl
theorem fill_seq (s : Nat) : ∀ (vs : List Value) (k : Nat) (cs : List Value), (∀ v ∈ vs, v.cells.size = s) → cs.length = (k + vs.length) * s →
    Instr.fill (fun i => some (i * s, s)) cs.toArray (numbered k vs) = some ((cs.take (k * s)) ++ vs.flatMap (fun v => v.cells.toList)).toArray
  | [], k, cs, _, hl => by
    simp only [numbered, Instr.fill, List.flatMap_nil, List.append_nil]
    rw [List.take_of_length_le (by rw [hl]; simp)]
  | v :: vs, k, cs, hv, hl => by
    have h1 := hv v (by simp)
    have hlen : v.cells.toList.length = s := by rw [Array.length_toList]; exact h1
    have hks : k * s + s ≤ cs.length := by
      rw [hl]
      have : (k + 1) * s ≤ (k + (v :: vs).length) * s := Nat.mul_le_mul_right _ (by simp)
      rw [Nat.add_mul] at this; omega
    have hput : v.cells.zipIdx.foldl (fun cs (p : Value × Nat) => cs.setIfInBounds (k * s + p.2) p.1) cs.toArray = (cs.take (k * s) ++ v.cells.toList ++ cs.drop (k * s + s)).toArray := by
      rw [← Array.foldl_toList, Array.toList_zipIdx, foldl_put, Nat.add_zero, putAt_list]
      congr 1
      have e : cs.take (k * s) ++ (cs.drop (k * s)).take s ++ cs.drop (k * s + s) = cs := by
        rw [List.append_assoc, ← List.drop_drop, List.take_append_drop, List.take_append_drop]
      have := setCells_mid v.cells.toList (cs.take (k * s)) ((cs.drop (k * s)).take s) (cs.drop (k * s + s)) (by simp; omega)
      rw [e, List.length_take, Nat.min_eq_left (by omega)] at this
      exact this
    show (if v.cells.size ≠ s || k * s + v.cells.size > cs.toArray.size then none else Instr.fill _ (v.cells.zipIdx.foldl (fun cs (p : Value × Nat) => cs.setIfInBounds (k * s + p.2) p.1) cs.toArray) (numbered (k + 1) vs)) = _
    rw [if_neg (by simp [h1]; omega), hput, fill_seq s vs (k + 1) _ (fun u hu => hv u (by simp [hu])) (by simp only [List.length_append, List.length_take, List.length_drop, hlen]; rw [hl] at hks ⊢; simp only [List.length_cons] at *; rw [show k + 1 + vs.length = k + (vs.length + 1) by omega]; omega)]
    congr 2
    rw [List.flatMap_cons, ← List.append_assoc]
    congr 1
    rw [List.take_append_of_le_length (by simp only [List.length_append, List.length_take, hlen]; rw [Nat.add_mul]; omega), List.take_of_length_le (by simp only [List.length_append, List.length_take, hlen]; rw [Nat.add_mul]; omega)]
section
variable {P : Program} {n : Fr} {w0 : World} {N : Env → World → Prop} {ρ : Env} {T : List Reg} {full : Array Oper} {rest : List Oper} {d : Nat} {ty t : TypeId} {pos : String} {af : Array Edge}
theorem gop_lit {e : TypeId} {len s : Nat} {parts : Array (Nat × Operand)} {vs : List Value} {cells : Array Value} {z : Value} (ht : P.underlying t = some (.slice e)) (hs : ∀ w, (sizeOf e).run P w = .ok s w)
    (hz : ∀ w, (zeroValue e).run P w = .ok z w) (hp : parts.toList.map (fun q => (q.1, ev ρ q.2)) = numbered 0 vs) (hsm : len * s ≤ 2 ^ 24) (hpos : len * s ≠ 0) (hlen : vs.length = len) (hvs : vs.all (fun v => v.cells.size == s) = true)
    (hc : (vs.flatMap (fun v => v.cells.toList)).toArray = cells) (hlt : Nat.blt d n.n = true)
    (h : ∀ b, w0.heap.size ≤ b → gops P n w0 full rest N (upd ρ d (.slice (some ⟨b, 0, none⟩) len len)) (T ++ [box b (.cells cells e)])) :
    gops P n w0 full (⟨some d, .buildSlice t len parts, ty, pos, af, none⟩ :: rest) N ρ T := by
  refine gop_bslice ht hs hz hp hsm hpos ?_ hlt h
  have := fill_seq s vs 0 ((Array.range (len * s)).map (z.cells[· % z.cells.size]!)).toList (fun v hv => by simpa using (List.all_eq_true.1 hvs) v hv) (by simp [hlen])
  simp only [Array.toArray_toList, Nat.zero_mul, List.take_zero, List.nil_append] at this
  rw [this, hc]
end
end Go.Cf
namespace Go.Cf
section
variable {P : Program} {n : Fr} {w0 : World} {N : Env → World → Prop} {X : Nat → Env → World → Prop} {R : Env → World → Prop} {ρ : Env} {T : List Reg} {full : Array Oper} {l : List Oper}
theorem gops_fact {Φ : Prop} (h : ∀ w, Mem w0 T w → Φ) (k : Φ → gops P n w0 full l N ρ T) : gops P n w0 full l N ρ T := fun w hM => k (h w hM) w hM
theorem g_fact {c : Code} {Φ : Prop} (h : ∀ w, Mem w0 T w → Φ) (k : Φ → gwp P n w0 c N X R ρ T) : gwp P n w0 c N X R ρ T := fun w hM => k (h w hM) w hM
end
end Go.Cf
namespace Go.Cf
section
variable {P : Program} {n : Fr} {w0 : World} {N : Env → World → Prop} {X : Nat → Env → World → Prop} {R : Env → World → Prop} {ρ : Env} {T : List Reg}
theorem gcut3 {c : Code} {Lf : List (Nat × Value)} {G : Type} (φ : G → Prop) (L : G → List (Nat × Value)) (S : G → List (Nat × Reg)) (hf0 : agree ρ Lf)
    (h1 : gwp P n w0 c (fun ρ' w' => ∃ g, φ g ∧ agree ρ' (L g) ∧ agree ρ' Lf ∧ Mem w0 (setL T (S g)) w') X R ρ T)
    (h2 : ∀ g, φ g → ∀ σ, Fin w0 N (updL (updL σ Lf) (L g)) (setL T (S g))) : gwp P n w0 c N X R ρ T := gcut2 φ L (fun g => setL T (S g)) hf0 h1 h2
theorem gcut3_end {T0 : List Reg} {Lf : List (Nat × Value)} {G : Type} {φ : G → Prop} {L : G → List (Nat × Value)} {S : G → List (Nat × Reg)} (g : G) (hφ : φ g) (hL : agree ρ (L g)) (hF : agree ρ Lf) (hT : ∃ extra, T = setL T0 (S g) ++ extra) :
    Fin w0 (fun ρ' w' => ∃ g, φ g ∧ agree ρ' (L g) ∧ agree ρ' Lf ∧ Mem w0 (setL T0 (S g)) w') ρ T := gcut2_end (T' := fun g => setL T0 (S g)) g hφ hL hF hT
end
end Go.Cf
namespace Go.Cf
open Go.RowKit
structure Fault where
  code : Int
  index : Int
  deriving DecidableEq
abbrev fv (f : Fault) : Value := .agg #[.int .i64 f.code, .int .i64 f.index]
abbrev boolCells (b : Bool) : List Value := [.bool b]
abbrev intCells (n : Int) : List Value := [.int .i64 n]
theorem wide_int : Wide intCells 1 := fun _ => ⟨rfl, by simp [intCells, Value.oneCell']⟩
theorem own_some {w : World} {base size n : Nat} {e : TypeId} {v : Value} {xs : List Value} (h : w.ownsRow base e size v n xs) (hn : 0 < n) : ∃ g c, v = .slice (some ⟨g, 0, none⟩) n c ∧ n ≤ c ∧ c ≤ maxLen := by
  rcases h.2 with ⟨rfl, rfl⟩ | ⟨g, cap, cur, rfl, _, _, h4, h5, _⟩
  · exact absurd hn (Nat.lt_irrefl 0)
  · exact ⟨_, _, rfl, h4, h5⟩
end Go.Cf
namespace Go.Cf
theorem not_t {b : Bool} (h : (!b) = true) : b = false := by cases b <;> simp_all
theorem not_f {b : Bool} (h : (!b) = false) : b = true := by cases b <;> simp_all
theorem fault_ne {f : Fault} : ((!(decide (f.code = 0) && decide (f.index = 0))) = true) ↔ f ≠ ⟨0, 0⟩ := by
  cases f with | mk a b => simp; omega
theorem fault_eq {f : Fault} : ((!(decide (f.code = 0) && decide (f.index = 0))) = false) ↔ f = ⟨0, 0⟩ := by
  cases f with | mk a b => simp
theorem take_next {α : Type} (l m : List α) (k : Nat) (h1 : k < l.length) (h2 : k < m.length) (ht : l.take k = m.take k) (he : l[k] = m[k]) : l.take (k + 1) = m.take (k + 1) := by
  rw [List.take_succ_eq_append_getElem h1, List.take_succ_eq_append_getElem h2, ht, he]
theorem eq_of_takes {α : Type} {l m : List α} (hl : l.length = m.length) {k : Nat} (hk : l.length ≤ k) (ht : l.take k = m.take k) : l = m := by
  rwa [List.take_of_length_le hk, List.take_of_length_le (by omega)] at ht
theorem ne_of_at {α : Type} {l m : List α} {k : Nat} (h1 : k < l.length) (h2 : k < m.length) (h : ¬ l[k] = m[k]) : ¬ l = m := by
  intro e; subst e; exact h rfl
end Go.Cf
namespace Go.Cf
open Go.RowKit
def scanFrom {α : Type} (f : Nat → α → Int) : Nat → List α → Fault
  | _, [] => ⟨0, 0⟩
  | k, x :: l => if f k x = 0 then scanFrom f (k + 1) l else ⟨f k x, k⟩
def scan {α : Type} (f : Nat → α → Int) (l : List α) : Fault := scanFrom f 0 l
def lineCode (s : ByteArray) : Int := if 80 < s.size then 2 else if 0 ≤ firstIdx s 10 then 5 else 0
def linesF (l : List ByteArray) : Fault := if 120 < l.length then ⟨2, -1⟩ else scan (fun _ s => lineCode s) l
theorem linesF_len {l : List ByteArray} (h : linesF l = ⟨0, 0⟩) : l.length ≤ 120 := by
  unfold linesF at h
  split at h
  · cases h
  · omega
structure Hunk where
  at_ : Int
  old : List ByteArray
  new : List ByteArray
def Hunk.end_ (h : Hunk) : Int := h.at_ + h.old.length
def prevEnd (hs : List Hunk) : Nat → Int
  | 0 => -1
  | k + 1 => match hs[k]? with
    | some h => h.end_
    | none => -1
structure VHunk (h : Hunk) (e : Int) : Prop where
  lo : 0 ≤ h.at_
  hi : h.at_ ≤ 120
  old : linesF h.old = ⟨0, 0⟩
  new : linesF h.new = ⟨0, 0⟩
  some_ : h.old.length + h.new.length ≠ 0
  past : e < h.at_
  end_ : h.end_ ≤ 120
theorem VHunk.oldLen {h : Hunk} {e : Int} (v : VHunk h e) : h.old.length ≤ 120 := linesF_len v.old
theorem VHunk.newLen {h : Hunk} {e : Int} (v : VHunk h e) : h.new.length ≤ 120 := linesF_len v.new
structure PV (hs : List Hunk) : Prop where
  len : hs.length ≤ 130
  at_ : ∀ k (h : k < hs.length), VHunk hs[k] (prevEnd hs k)
structure HB (h : Hunk) : Prop where
  lo : 0 ≤ h.at_
  hi : h.at_ ≤ 120
  old : h.old.length ≤ 120
  new : h.new.length ≤ 120
theorem PV.hb {hs : List Hunk} (v : PV hs) : ∀ k (h : k < hs.length), HB hs[k] := fun k h => ⟨(v.at_ k h).lo, (v.at_ k h).hi, (v.at_ k h).oldLen, (v.at_ k h).newLen⟩
theorem PV.each {hs : List Hunk} (v : PV hs) : ∀ h ∈ hs, HB h := fun h hh => by
  obtain ⟨k, hk, rfl⟩ := List.getElem_of_mem hh
  exact v.hb k hk
end Go.Cf
namespace Go.Cf
open Go.RowKit
def nx (marks : List Nat) (k i : Nat) : Nat := bif marks.contains i then k + 1 else k
def wpE (P : Program) (ops : Array Oper) (Q : Exit → Act → World → Prop) (marks : List Nat) (S : Nat → World → Prop) : Nat → Nat → Array Bool → Act → World → Prop
  | 0, _, listed, a, w => Region.ready .any ops listed = [] ∧ Q .normal a w
  | fuel + 1, k, listed, a, w =>
    (Region.ready .any ops listed = [] → Q .normal a w) ∧
    ∀ i ∈ Region.ready .any ops listed, wpOp P ops Q i (fun a' w' => S (nx marks k i) w' ∧ wpE P ops Q marks S fuel (nx marks k i) (listed.setIfInBounds i true) a' w') a w
def aheadB (ops : Array Oper) (marks : List Nat) (listed L : Array Bool) (i : Nat) : Bool :=
  !marks.contains i && listed.size == ops.size && L.size == ops.size && (List.range ops.size).all (fun j => !listed.getD j false || L.getD j false) &&
    (Region.ready .any ops L).all (· == i) && marks.all (fun m => !L.getD m false || listed.getD m false)
structure Ahead (ops : Array Oper) (marks : List Nat) (listed L : Array Bool) (i : Nat) : Prop where
  no : marks.contains i = false
  sz : listed.size = ops.size
  szL : L.size = ops.size
  le : ∀ j, listed.getD j false = true → L.getD j false = true
  stop : ∀ j ∈ Region.ready .any ops L, j = i
  mrk : ∀ m, marks.contains m = true → L.getD m false = true → listed.getD m false = true
theorem aheadB_spec {ops : Array Oper} {marks : List Nat} {listed L : Array Bool} {i : Nat} (h : aheadB ops marks listed L i = true) : Ahead ops marks listed L i := by
  simp only [aheadB, Bool.and_eq_true, Bool.not_eq_true', beq_iff_eq, List.all_eq_true, List.mem_range] at h
  obtain ⟨⟨⟨⟨⟨h1, h2⟩, h3⟩, h4⟩, h5⟩, h6⟩ := h
  refine ⟨h1, h2, h3, fun j hj => ?_, h5, fun m hm hL => ?_⟩
  · have hlt : j < listed.size := by
      rcases Nat.lt_or_ge j listed.size with h | h
      · exact h
      · simp [Array.getElem?_eq_none h] at hj
    have := h4 j (by omega)
    rw [hj] at this; simpa using this
  · have := h6 m (List.contains_iff_mem.1 hm)
    rw [hL] at this; simpa using this
theorem Ahead.unlisted {ops : Array Oper} {marks : List Nat} {listed L : Array Bool} {i j : Nat} (h : Ahead ops marks listed L i) (hj : j ∈ Region.ready .any ops listed) (hji : j ≠ i) : L.getD j false = true ∧ marks.contains j = false := by
  obtain ⟨hun, oj, hoj, hall⟩ := mem_ready.1 hj
  have hlt : j < ops.size := (Array.getElem?_eq_some_iff.1 hoj).1
  have hL : L.getD j false = true := by
    cases hc : L.getD j false with
    | true => rfl
    | false =>
      have hr : j ∈ Region.ready .any ops L := mem_ready.2 ⟨by
        have : j < L.size := by rw [h.szL]; exact hlt
        simp [this] at hc ⊢; exact hc, oj, hoj, fun e he hb => h.le _ (hall e he hb)⟩
      exact absurd (h.stop j hr) hji
  refine ⟨hL, ?_⟩
  cases hc : marks.contains j with
  | false => rfl
  | true =>
    have := h.mrk j hc hL
    have hs : j < listed.size := by rw [h.sz]; exact hlt
    simp [hs] at hun this
    rw [hun] at this; cases this
theorem getD_set_self {l : Array Bool} {i j : Nat} (h : (l.setIfInBounds i true).getD j false = true) : j = i ∨ l.getD j false = true := by
  by_cases e : j = i
  · exact .inl e
  · right; rwa [getD_set_ne false (Ne.symm e)] at h
theorem getD_mono {l : Array Bool} {i j : Nat} (h : l.getD j false = true) : (l.setIfInBounds i true).getD j false = true := getD_set_true h
theorem Ahead.next {ops : Array Oper} {marks : List Nat} {listed L : Array Bool} {i j : Nat} (h : Ahead ops marks listed L i) (hL : L.getD j false = true) : Ahead ops marks (listed.setIfInBounds j true) L i :=
  ⟨h.no, by simp [h.sz], h.szL, fun q hq => by
    rcases getD_set_self hq with rfl | hq
    · exact hL
    · exact h.le q hq, h.stop, fun m hm hl => getD_mono (h.mrk m hm hl)⟩
section
variable {P : Program} {ops : Array Oper} {Q : Exit → Act → World → Prop} {marks : List Nat} {S : Nat → World → Prop}
theorem wpAny_of_wpE : ∀ (fuel k : Nat) (listed : Array Bool) (a : Act) (w : World), wpE P ops Q marks S fuel k listed a w → wpAny P .any ops Q fuel listed a w
  | 0, _, _, _, _, h => h
  | fuel + 1, _, _, _, _, h => ⟨h.1, fun i hi => wpOp_mono (fun a' w' h' => wpAny_of_wpE fuel _ _ a' w' h'.2) (h.2 i hi)⟩
theorem wpE_first {i k : Nat} {L : Array Bool} {oi : Oper} {v : Value} (hi : ops[i]? = some oi) (hsel : ∀ (j : Nat) (o : Oper) cs b, ops[j]? = some o → o.op ≠ .select cs b)
    (hQ : ∀ c a w, Q (.panic c) (a.put oi.dst v) w → Q (.panic c) a w) : ∀ (fuel : Nat) (listed : Array Bool) (a : Act) (w : World),
      (∀ j oj, ops[j]? = some oj → j ≠ i → listed.getD j true = false → (∀ e ∈ oj.after, Region.binds .any e = true → e.on ≠ i) → oi.apart ops oj = true) →
      Ahead ops marks listed L i → i ∈ Region.ready .any ops listed → YieldsIf P ops (S k) oi v a → S k w →
      wpE P ops Q marks S fuel k (listed.setIfInBounds i true) (a.put oi.dst v) w → wpE P ops Q marks S (fuel + 1) k listed a w := by
  intro fuel
  induction fuel with
  | zero =>
    intro listed a w _ hm hr hy hS H
    refine ⟨fun h => (by rw [h] at hr; cases hr), fun j hj => ?_⟩
    by_cases hji : j = i
    · subst hji
      have e : nx marks k j = k := by unfold nx; rw [hm.no]; rfl
      rw [e]; exact hy.wpOp hi hS ⟨hS, H⟩
    · have h0 := ready_mono hj hji
      rw [H.1] at h0; cases h0
  | succ fuel ih =>
    intro listed a w hfree hm hr hy hS H
    refine ⟨fun h => (by rw [h] at hr; cases hr), fun j hj => ?_⟩
    by_cases hji : j = i
    · subst hji
      have e : nx marks k j = k := by unfold nx; rw [hm.no]; rfl
      rw [e]; exact hy.wpOp hi hS ⟨hS, H⟩
    · obtain ⟨hjun, oj, hoj, hall⟩ := mem_ready.1 hj
      have hnot : ∀ e ∈ oj.after, Region.binds .any e = true → e.on ≠ i := by
        intro e he hb heq
        have h1 := hall e he hb
        have h0 := (mem_ready.1 hr).1
        rw [heq] at h1
        rcases Nat.lt_or_ge i listed.size with h' | h'
        · simp [h'] at h0 h1; rw [h0] at h1; cases h1
        · simp [Array.getElem?_eq_none h'] at h1
      have hap := hfree j oj hoj hji hjun hnot
      obtain ⟨hLj, hmj⟩ := hm.unlisted hj hji
      have e : nx marks k j = k := by unfold nx; rw [hmj]; rfl
      have h1 := H.2 j (ready_mono hj hji)
      rw [e] at h1 ⊢
      have h2 := wpOp_putIf hoj hap (fun cs b => hsel i oi cs b hi) (fun cs b => hsel j oj cs b hoj) hQ hy h1
      refine wpOp_mono (fun a' w' h3 => ⟨h3.2.1, ih (listed.setIfInBounds j true) a' w' ?_ (hm.next hLj) (ready_mono hr (Ne.symm hji)) h3.1 h3.2.1 ?_⟩) h2
      · intro q oq hq hqi hun hno
        refine hfree q oq hq hqi ?_ hno
        by_cases hjq : j = q
        · subst hjq; exact hjun
        · rw [getD_set_ne true hjq] at hun; exact hun
      · rw [Array.setIfInBounds_comm _ _ hji]
        exact h3.2.2
theorem wpE_firstp {i : Nat} {B : World → Prop} {oi : Oper} {v : Value} (hB : ∀ k w, S k w → B w) (hi : ops[i]? = some oi) (hsel : ∀ (j : Nat) (o : Oper) cs b, ops[j]? = some o → o.op ≠ .select cs b)
    (hQ : ∀ c a w, Q (.panic c) (a.put oi.dst v) w → Q (.panic c) a w) (hm : marks.contains i = false) : ∀ (fuel k : Nat) (listed : Array Bool) (a : Act) (w : World),
      (∀ j oj, ops[j]? = some oj → j ≠ i → listed.getD j true = false → (∀ e ∈ oj.after, Region.binds .any e = true → e.on ≠ i) → oi.apart ops oj = true) →
      i ∈ Region.ready .any ops listed → YieldsIf P ops B oi v a → S k w →
      wpE P ops Q marks S fuel k (listed.setIfInBounds i true) (a.put oi.dst v) w → wpE P ops Q marks S (fuel + 1) k listed a w := by
  intro fuel
  induction fuel with
  | zero =>
    intro k listed a w _ hr hy hS H
    refine ⟨fun h => (by rw [h] at hr; cases hr), fun j hj => ?_⟩
    by_cases hji : j = i
    · subst hji
      have e : nx marks k j = k := by unfold nx; rw [hm]; rfl
      rw [e]; exact hy.wpOp hi (hB k w hS) ⟨hS, H⟩
    · have h0 := ready_mono hj hji
      rw [H.1] at h0; cases h0
  | succ fuel ih =>
    intro k listed a w hfree hr hy hS H
    refine ⟨fun h => (by rw [h] at hr; cases hr), fun j hj => ?_⟩
    by_cases hji : j = i
    · subst hji
      have e : nx marks k j = k := by unfold nx; rw [hm]; rfl
      rw [e]; exact hy.wpOp hi (hB k w hS) ⟨hS, H⟩
    · obtain ⟨hjun, oj, hoj, hall⟩ := mem_ready.1 hj
      have hnot : ∀ e ∈ oj.after, Region.binds .any e = true → e.on ≠ i := by
        intro e he hb heq
        have h1 := hall e he hb
        have h0 := (mem_ready.1 hr).1
        rw [heq] at h1
        rcases Nat.lt_or_ge i listed.size with h' | h'
        · simp [h'] at h0 h1; rw [h0] at h1; cases h1
        · simp [Array.getElem?_eq_none h'] at h1
      have hap := hfree j oj hoj hji hjun hnot
      have h1 := H.2 j (ready_mono hj hji)
      have h2 := wpOp_putIf hoj hap (fun cs b => hsel i oi cs b hi) (fun cs b => hsel j oj cs b hoj) hQ hy h1
      refine wpOp_mono (fun a' w' h3 => ⟨h3.2.1, ih _ (listed.setIfInBounds j true) a' w' ?_ (ready_mono hr (Ne.symm hji)) h3.1 h3.2.1 ?_⟩) h2
      · intro q oq hq hqi hun hno
        refine hfree q oq hq hqi ?_ hno
        by_cases hjq : j = q
        · subst hjq; exact hjun
        · rw [getD_set_ne true hjq] at hun; exact hun
      · rw [Array.setIfInBounds_comm _ _ hji]
        exact h3.2.2
end
def ghe (P : Program) (n : Fr) (w0 : World) (full : Array Oper) (marks : List Nat) (TS : List (List Reg)) (fuel k : Nat) (listed : Array Bool) (N : Env → World → Prop) (ρ : Env) (T : List Reg) : Prop :=
  ∀ w, Mem w0 T w → ∀ a, Is n ρ a → wpE P full (Out n N (fun _ _ _ => False) (fun _ _ => False)) marks (fun k => Mem w0 (TS.getD k [])) fuel k listed a w
def Then (P : Program) (n : Fr) (w0 : World) (full : Array Oper) (marks : List Nat) (TS : List (List Reg)) (fuel k : Nat) (listed : Array Bool) (N : Env → World → Prop) (ρ : Env) (w : World) : Prop :=
  Mem w0 (TS.getD k []) w ∧ ∀ a, Is n ρ a → wpE P full (Out n N (fun _ _ _ => False) (fun _ _ => False)) marks (fun k => Mem w0 (TS.getD k [])) fuel k listed a w
section
variable {P : Program} {n : Fr} {w0 : World} {N : Env → World → Prop} {X : Nat → Env → World → Prop} {R : Env → World → Prop} {ρ : Env} {T : List Reg} {TS : List (List Reg)} {TK : List Reg}
  {full : Array Oper} {l : List Oper} {o : Oper} {v : Value} {d k fuel : Nat} {marks : List Nat} {listed listed' : Array Bool}
theorem greg_e0 {id : Nat} (marks : List Nat) (hm : P.follows .mixedOrders = true) (h : ghe P n w0 l.toArray marks [T] l.length 0 (Array.replicate l.length false) N ρ T) (hrd : n.rd = none := by rfl) : gwp P n w0 (.region id l.toArray true) N X R ρ T := by
  intro w hM a ha
  refine cw_of_wp hrd ?_
  refine wp_mono (wp_region_any hm ?_) out_more
  have := wpAny_of_wpE _ _ _ _ _ (h { w with drawn := w.drawn + 1 } (hM.drew rfl rfl rfl rfl) a ha)
  simpa using this
theorem greg_e1 {id : Nat} (marks : List Nat) (S : List (Nat × Reg)) (hm : P.follows .mixedOrders = true) (h : ghe P n w0 l.toArray marks [setL T S] l.length 0 (Array.replicate l.length false) N ρ T) (hrd : n.rd = none := by rfl) : gwp P n w0 (.region id l.toArray true) N X R ρ T := by
  intro w hM a ha
  refine cw_of_wp hrd ?_
  refine wp_mono (wp_region_any hm ?_) out_more
  have := wpAny_of_wpE _ _ _ _ _ (h { w with drawn := w.drawn + 1 } (hM.drew rfl rfl rfl rfl) a ha)
  simpa using this
theorem weak_take {T' : List Reg} (h : T.take T'.length = T') : Weak w0 T T' := fun _ hM => by rw [← h]; exact hM.sub (List.take_sublist _ _)
theorem weak_nil : Weak w0 T [] := fun _ hM => hM.sub (List.nil_sublist _)
theorem ge_take (i : Nat) (hi : full[i]? = some o) (hs : Region.noSelect full = true) (hf : Region.free .any full listed i = true) (hr : (Region.ready .any full listed).contains i = true) (L : Array Bool) (hmw : aheadB full marks listed L i = true) (hk : TS.getD k [] = TK)
    (hy : Yield P w0 TK ρ o v) (hg : o.guard = none) (hd : o.dst = some d) (hlt : Nat.blt d n.n = true) (hW : Weak w0 T TK) (hl : listed.setIfInBounds i true = listed')
    (h : ghe P n w0 full marks TS fuel k listed' N (upd ρ d v) T) : ghe P n w0 full marks TS (fuel + 1) k listed N ρ T := by
  intro w hM a ha
  subst hk
  refine wpE_first (v := v) hi (Region.noSelect_spec hs) (fun c a w q => q) fuel listed a w (Region.free_spec hi hf) (aheadB_spec hmw) (by simpa using hr) (.inl ⟨by simp [Region.wanted, hg], fun w hS => by rw [ha.eval]; exact hy w hS⟩) (hW w hM) ?_
  rw [hd, hl]
  exact h w hM _ (ha.put hlt v)
theorem ge_takep (i : Nat) (hi : full[i]? = some o) (hs : Region.noSelect full = true) (hf : Region.free .any full listed i = true) (hr : (Region.ready .any full listed).contains i = true) (hm : marks.contains i = false) (hk : TS.getD k [] = TK)
    (hy : Yield P w0 [] ρ o v) (hg : o.guard = none) (hd : o.dst = some d) (hlt : Nat.blt d n.n = true) (hW : Weak w0 T TK) (hl : listed.setIfInBounds i true = listed')
    (h : ghe P n w0 full marks TS fuel k listed' N (upd ρ d v) T) : ghe P n w0 full marks TS (fuel + 1) k listed N ρ T := by
  intro w hM a ha
  subst hk
  refine wpE_firstp (B := Mem w0 []) (v := v) (fun k w h => h.sub (List.nil_sublist _)) hi (Region.noSelect_spec hs) (fun c a w q => q) hm fuel k listed a w (Region.free_spec hi hf) (by simpa using hr) (.inl ⟨by simp [Region.wanted, hg], fun w hS => by rw [ha.eval]; exact hy w hS⟩) (hW w hM) ?_
  rw [hd, hl]
  exact h w hM _ (ha.put hlt v)
def GOp (P : Program) (n : Fr) (w0 : World) (full : Array Oper) (marks : List Nat) (TS : List (List Reg)) (fuel k : Nat) (listed : Array Bool) (N : Env → World → Prop) (ρ : Env) (T : List Reg) (i : Nat) : Prop :=
  ∀ w, Mem w0 T w → ∀ a, Is n ρ a → wpOp P full (Out n N (fun _ _ _ => False) (fun _ _ => False)) i (fun a' w' => Mem w0 (TS.getD (nx marks k i) []) w' ∧ wpE P full (Out n N (fun _ _ _ => False) (fun _ _ => False)) marks (fun k => Mem w0 (TS.getD k [])) fuel (nx marks k i) (listed.setIfInBounds i true) a' w') a w
theorem ge_op (i : Nat) {k' : Nat} (hi : full[i]? = some o) (hk : nx marks k i = k') (hl : listed.setIfInBounds i true = listed')
    (h : gops P n w0 full [o] (Then P n w0 full marks TS fuel k' listed' N) ρ T) (hrd : n.rd = none := by rfl) : GOp P n w0 full marks TS fuel k listed N ρ T i := by
  intro w hM a ha
  rw [hk, hl]
  have h1 := h w hM a ha
  unfold lw at h1
  rw [hrd] at h1
  dsimp only at h1
  unfold wpList at h1
  unfold wpOp
  simp only [hi]
  have key : ∀ a' w', wpList P full (Out n (Then P n w0 full marks TS fuel k' listed' N) (fun _ _ _ => False) (fun _ _ => False)) [] a' w' →
      Mem w0 (TS.getD k' []) w' ∧ wpE P full (Out n N (fun _ _ _ => False) (fun _ _ => False)) marks (fun k => Mem w0 (TS.getD k [])) fuel k' listed' a' w' := by
    intro a' w' q
    obtain ⟨ρ', hI, h2, h3⟩ := q
    exact ⟨h2, h3 a' hI⟩
  have noOut : ¬ LetsOut (Out n (Then P n w0 full marks TS fuel k' listed' N) (fun _ _ _ => False) (fun _ _ => False)) := fun ⟨_, _, q⟩ => q
  split
  · rename_i hw
    rw [if_pos hw] at h1
    left
    rcases h1 with h1 | ⟨_, h1⟩
    · have h2 := Oper.wp_mono key h1
      clear h1
      unfold Oper.wp at h2 ⊢
      generalize (execOp a.eval o).run P w = r at h2 ⊢
      cases r with
      | ok nn w' =>
        cases nn <;> simp only [Oper.upon] at h2 ⊢ <;> first
          | exact h2
          | exact Calls.mono h2 (fun e w'' he => by cases e <;> first | exact he | exact he.elim | exact (noOut he).elim)
      | halt x w' => cases x <;> simp only [Oper.upon] at h2 ⊢ <;> first | exact h2 | exact h2.elim
    · exact (noOut h1).elim
  · rename_i hw
    rw [if_neg hw] at h1
    exact key _ _ h1
theorem ge_one (i : Nat) {k' : Nat} (hr : Region.ready .any full listed = [i]) (hi : full[i]? = some o) (hk : nx marks k i = k') (hl : listed.setIfInBounds i true = listed')
    (h : gops P n w0 full [o] (Then P n w0 full marks TS fuel k' listed' N) ρ T) (hrd : n.rd = none := by rfl) : ghe P n w0 full marks TS (fuel + 1) k listed N ρ T := by
  intro w hM a ha
  refine ⟨fun h0 => (by rw [hr] at h0; cases h0), fun j hj => ?_⟩
  rw [hr, List.mem_singleton] at hj
  subst hj
  exact ge_op j hi hk hl h hrd w hM a ha
theorem ge_fin {listed : Array Bool} (hk : TS.getD k [] = TK) (hW : Weak w0 T TK) (h : ghe P n w0 full marks TS fuel k listed N ρ T) : Fin w0 (Then P n w0 full marks TS fuel k listed N) ρ T := fun w hM => by
  subst hk; exact ⟨hW w hM, fun a ha => h w hM a ha⟩
theorem ge_done (hr : Region.ready .any full listed = []) (h : Fin w0 N ρ T) : ghe P n w0 full marks TS fuel k listed N ρ T := fun w hM a ha => by
  cases fuel with
  | zero => exact ⟨hr, ρ, ha, h w hM⟩
  | succ m => exact ⟨fun _ => ⟨ρ, ha, h w hM⟩, by rw [hr]; simp⟩
end
def emp : Reg := ⟨fun _ => False, fun _ => True, fun _ _ _ _ => trivial⟩
def both (r s : Reg) : Reg := ⟨fun b => r.has b ∨ s.has b, fun w => r.ok w ∧ s.ok w, fun w w' h hw => ⟨r.stays w w' (fun b hb => h b (.inl hb)) hw.1, s.stays w w' (fun b hb => h b (.inr hb)) hw.2⟩⟩
def all_ : List Reg → Reg
  | [] => emp
  | r :: l => both r (all_ l)
theorem all_has : ∀ (l : List Reg) (b : Nat), (all_ l).has b ↔ ∃ r ∈ l, r.has b
  | [], b => by simp [all_, emp]
  | r :: l, b => by simp [all_, both, all_has l b]
theorem all_ok : ∀ (l : List Reg) (w : World), (all_ l).ok w ↔ ∀ r ∈ l, r.ok w
  | [], w => by simp [all_, emp]
  | r :: l, w => by simp [all_, both, all_ok l w]
section
variable {w0 w w' : World} {T : List Reg}
theorem Mem.emp (h : Mem w0 T w) : Mem w0 (T ++ [emp]) w := h.add (Below.refl _ _) trivial (fun _ hb => hb.elim)
theorem Mem.fold {i : Nat} {r s : Reg} (h : Mem w0 (T ++ [s]) w) (hi : T[i]? = some r) : Mem w0 (T.set i (both r s)) w := by
  have hT : Mem w0 T w := h.sub (List.sublist_append_left _ _)
  have hr : r ∈ T := List.mem_of_getElem? hi
  have hp := List.pairwise_append.1 h.disj
  refine ⟨h.low, ?_, ?_, ?_, ?_⟩
  · intro q hq
    rcases List.mem_or_eq_of_mem_set hq with hq | rfl
    · exact hT.ok q hq
    · exact ⟨hT.ok r hr, h.ok s (by simp)⟩
  · intro q hq b hb
    rcases List.mem_or_eq_of_mem_set hq with hq | rfl
    · exact hT.lt q hq b hb
    · rcases hb with hb | hb
      · exact hT.lt r hr b hb
      · exact h.lt s (by simp) b hb
  · intro q hq b hb
    rcases List.mem_or_eq_of_mem_set hq with hq | rfl
    · exact hT.ge q hq b hb
    · rcases hb with hb | hb
      · exact hT.ge r hr b hb
      · exact h.ge s (by simp) b hb
  · refine pairwise_set hT.disj hi (fun q hq hR b h1 h2 => ?_) (fun q hq hR b h1 h2 => ?_)
    · rcases h2 with h2 | h2
      · exact hR b h1 h2
      · exact hp.2.2 q hq s (by simp) b h1 h2
    · rcases h1 with h1 | h1
      · exact hR b h1 h2
      · exact hp.2.2 q hq s (by simp) b h2 h1
theorem Mem.join {T' : List Reg} (h : Mem w0 T w) (h' : Mem w T' w') : Mem w0 (T ++ T') w' := by
  have hc := h.call h'.low
  refine ⟨hc.low, ?_, ?_, ?_, ?_⟩
  · intro q hq
    rcases List.mem_append.1 hq with hq | hq
    · exact hc.ok q hq
    · exact h'.ok q hq
  · intro q hq b hb
    rcases List.mem_append.1 hq with hq | hq
    · exact hc.lt q hq b hb
    · exact h'.lt q hq b hb
  · intro q hq b hb
    rcases List.mem_append.1 hq with hq | hq
    · exact hc.ge q hq b hb
    · exact Nat.le_trans h.low.size (h'.ge q hq b hb)
  · rw [List.pairwise_append]
    refine ⟨h.disj, h'.disj, fun r hr s hs b h1 h2 => ?_⟩
    have := h.lt r hr b h1
    have := h'.ge s hs b h2
    omega
theorem Mem.perm {T' : List Reg} (h : Mem w0 T w) (hp : List.Perm T T') : Mem w0 T' w :=
  ⟨h.low, fun r hr => h.ok r (hp.mem_iff.2 hr), fun r hr => h.lt r (hp.mem_iff.2 hr), fun r hr => h.ge r (hp.mem_iff.2 hr), hp.pairwise h.disj (fun hxy b h1 h2 => hxy b h2 h1)⟩
theorem Mem.pack {F E : List Reg} (h : Mem w0 (F ++ E) w) : Mem w0 (F ++ [all_ E]) w ∧ ∀ F' G w', Mem w0 (F' ++ all_ E :: G) w' → Mem w0 (F' ++ (E ++ G)) w' := by
  have hp := List.pairwise_append.1 h.disj
  refine ⟨⟨h.low, ?_, ?_, ?_, ?_⟩, fun F' G w' h' => ⟨h'.low, ?_, ?_, ?_, ?_⟩⟩
  · intro q hq
    rcases List.mem_append.1 hq with hq | hq
    · exact h.ok q (by simp [hq])
    · rw [List.mem_singleton.1 hq, all_ok]; exact fun r hr => h.ok r (by simp [hr])
  · intro q hq b hb
    rcases List.mem_append.1 hq with hq | hq
    · exact h.lt q (by simp [hq]) b hb
    · rw [List.mem_singleton.1 hq, all_has] at hb; obtain ⟨r, hr, hb⟩ := hb; exact h.lt r (by simp [hr]) b hb
  · intro q hq b hb
    rcases List.mem_append.1 hq with hq | hq
    · exact h.ge q (by simp [hq]) b hb
    · rw [List.mem_singleton.1 hq, all_has] at hb; obtain ⟨r, hr, hb⟩ := hb; exact h.ge r (by simp [hr]) b hb
  · rw [List.pairwise_append]
    refine ⟨hp.1, List.pairwise_singleton _ _, fun r hr s hs b h1 h2 => ?_⟩
    rw [List.mem_singleton.1 hs, all_has] at h2
    obtain ⟨q, hq, h2⟩ := h2
    exact hp.2.2 r hr q hq b h1 h2
  · intro q hq
    rcases List.mem_append.1 hq with hq | hq
    · exact h'.ok q (by simp [hq])
    · rcases List.mem_append.1 hq with hq | hq
      · exact (all_ok E w').1 (h'.ok _ (by simp)) q hq
      · exact h'.ok q (by simp [hq])
  · intro q hq b hb
    rcases List.mem_append.1 hq with hq | hq
    · exact h'.lt q (by simp [hq]) b hb
    · rcases List.mem_append.1 hq with hq | hq
      · exact h'.lt (all_ E) (by simp) b ((all_has E b).2 ⟨q, hq, hb⟩)
      · exact h'.lt q (by simp [hq]) b hb
  · intro q hq b hb
    rcases List.mem_append.1 hq with hq | hq
    · exact h'.ge q (by simp [hq]) b hb
    · rcases List.mem_append.1 hq with hq | hq
      · exact h'.ge (all_ E) (by simp) b ((all_has E b).2 ⟨q, hq, hb⟩)
      · exact h'.ge q (by simp [hq]) b hb
  · have hp' := List.pairwise_append.1 h'.disj
    have hp2 := List.pairwise_cons.1 hp'.2.1
    rw [List.pairwise_append, List.pairwise_append]
    refine ⟨hp'.1, ⟨hp.2.1, hp2.2, fun r hr s hs b h1 h2 => hp2.1 s hs b ((all_has E b).2 ⟨r, hr, h1⟩) h2⟩, fun r hr s hs b h1 h2 => ?_⟩
    rcases List.mem_append.1 hs with hs | hs
    · exact hp'.2.2 r hr (all_ E) (by simp) b h1 ((all_has E b).2 ⟨s, hs, h2⟩)
    · exact hp'.2.2 r hr s (by simp [hs]) b h1 h2
end
section
variable {P : Program} {n : Fr} {w0 : World} {N : Env → World → Prop} {X : Nat → Env → World → Prop} {R : Env → World → Prop} {ρ : Env} {T : List Reg} {full : Array Oper} {l rest : List Oper} {o : Oper} {d : Nat} {c : Code}
theorem g_emp (h : gwp P n w0 c N X R ρ (T ++ [emp])) : gwp P n w0 c N X R ρ T := fun w hM => h w hM.emp
theorem fin_mem (T' : List Reg) (hT : Weak w0 T T') (h : Fin w0 N ρ T') : Fin w0 N ρ T := fun w hM => h w (hT w hM)
theorem gop_got {f : FuncId} {args : Array Value} (Ψ : Value → List Reg → Prop) (he : ∀ w, (execOp (ev ρ) o).run P w = .ok (.enter f args) w)
    (hc : ∀ w, Mem w0 T w → Calls P f args w (fun e w' => ∃ v T', e = .returned v ∧ Ψ v T' ∧ Mem w T' w'))
    (hg : o.guard = none) (hd : o.dst = some d) (hlt : Nat.blt d n.n = true)
    (h : ∀ v T', Ψ v T' → gops P n w0 full rest N (upd ρ d v) (T ++ T')) : gops P n w0 full (o :: rest) N ρ T :=
  gop_call he (fun w hM => (hc w hM).mono fun _ w' ⟨v, T', he, hΨ, hM'⟩ => ⟨v, he, h v T' hΨ w' (hM.join hM')⟩) hg hd hlt
end
section
variable {P : Program} {w0 : World} {T : List Reg} {ρ : Env} {dst : Option Tmp} {ty : TypeId} {pos : String} {af : Array Edge} {gd : Option (Nat × Bool)} {x y : Operand} {t yt : TypeId}
theorem y_makeFunc {f : FuncId} {caps : Array Operand} {vs : List Value} (hc : caps.toList.map (ev ρ) = vs) : Yield P w0 T ρ ⟨dst, .makeFunc (.func f) #[] caps, ty, pos, af, gd⟩ (.func (.func f) #[] vs.toArray) := fun w _ => by
  have e : caps.map (ev ρ) = vs.toArray := by rw [← hc, ← Array.toList_map, Array.toArray_toList]
  simp [execOp, Instr.makeFunc, e]
theorem e_callv {f : FuncId} {fn : Func} {args : Array Operand} {ats : Array TypeId} {vs cs : List Value} (hv : ev ρ x = .func (.func f) #[] cs.toArray) (hf : P.funcs[f]? = some fn) (hb : fn.body.isSome = true) (hnm : (fn.name == "runtime.NumGoroutine") = false) (ha : args.toList.map (ev ρ) = vs) (w : World) :
    (execOp (ev ρ) ⟨dst, .call { callee := .value x, args := args, argTypes := ats }, ty, pos, af, gd⟩).run P w = .ok (.enter f (vs ++ cs).toArray) w := by
  have e : args.map (ev ρ) = vs.toArray := by rw [← ha, ← Array.toList_map, Array.toArray_toList]
  obtain ⟨c, hc⟩ := Option.isSome_iff_exists.1 hb
  have hnm' : ¬ fn.name = "runtime.NumGoroutine" := by simpa using hnm
  simp [execOp, resolve, Deferred.ofValue, hv, invoke, callFunc, e, hf, hc, hnm']
end
end Go.Cf
namespace Go.Cf
open Go.RowKit
section
variable {P : Program} {n : Fr} {w0 : World} {N : Env → World → Prop} {ρ : Env} {T : List Reg} {full : Array Oper} {rest : List Oper} {d : Nat} {ty t : TypeId} {pos : String} {af : Array Edge}
theorem cells_rowl (i : Nat) {α : Type} {f : α → List Value} {l : List α} {size base g nn cap k : Nat} {e : TypeId} {a : α} (hi : T[i]? = some (rowl f base e size (.slice (some ⟨g, 0, none⟩) nn cap) l)) (hn : nn = l.length) (hf : ∀ x, (f x).length = size) (hk : l[k]? = some a) :
    ∀ j u, (f a)[j]? = some u → Cell w0 T ((⟨g, 0, none⟩ : Addr).add (k * size + j)) u := fun j u hu w hM => by
  subst hn
  have h := hM.own i hi
  exact h.cells (g := g) rfl _ u (flat_at hf l k a hk j u hu)
theorem row_form {α : Type} {f : α → List Value} {l : List α} {size base : Nat} {e : TypeId} {v : Value} {w : World} (h : (rowl f base e size v l).ok w) : ∃ A c, v = .slice A l.length c ∧ l.length ≤ c ∧ c ≤ maxLen ∧ (A = none → c = 0) := by
  have h' : w.ownsRow base e size v l.length (l.flatMap f) := h
  rcases h'.2 with ⟨h1, h2⟩ | ⟨g, cap, cur, hv, _, _, h4, h5, _⟩
  · exact ⟨none, 0, by rw [h1, h2], by omega, by unfold maxLen; omega, fun _ => rfl⟩
  · exact ⟨_, _, hv, h4, h5, fun h => by cases h⟩
theorem row_rdl {α : Type} {f : α → List Value} {l : List α} {size base n c : Nat} {e : TypeId} {A : Option Addr} {w : World} (hf : ∀ x, (f x).length = size) (h : (rowl f base e size (.slice A n c) l).ok w) : Rdl w base size f A l := Rdl.of_own hf h
theorem weak_all (m i : Nat) {r : Reg} (hi : (T.take m)[i]? = some r) : Weak w0 T ((T.take m).set i (both r (all_ (T.drop m)))) := fun w hM => by
  have h1 : Mem w0 (T.take m ++ T.drop m) w := by rw [List.take_append_drop]; exact hM
  exact (Mem.pack h1).1.fold hi
theorem Mem.dropTo {w : World} {T' : List Reg} (m : Nat) (hM : Mem w0 T w) (h : T.drop m = T') : Mem w0 T' w := by subst h; exact hM.sub (List.drop_sublist _ _)
theorem perm_front {T : List Reg} {i : Nat} {r : Reg} (hi : T[i]? = some r) : List.Perm T (r :: T.eraseIdx i) := by
  induction T generalizing i with
  | nil => simp at hi
  | cons a T ih =>
    cases i with
    | zero => simp at hi; subst hi; exact List.Perm.refl _
    | succ i => simp at hi; exact (List.Perm.cons a (ih hi)).trans (List.Perm.swap _ _ _)
theorem mem_eraseIdx {T : List Reg} {i m : Nat} {q : Reg} (hm : T[m]? = some q) (h : m ≠ i) : q ∈ T.eraseIdx i := by
  rcases Nat.lt_or_ge m i with h1 | h1
  · exact List.mem_of_getElem? (i := m) (by rw [List.getElem?_eraseIdx_of_lt h1]; exact hm)
  · refine List.mem_of_getElem? (i := m - 1) ?_
    rw [List.getElem?_eraseIdx_of_ge (by omega), show m - 1 + 1 = m by omega]; exact hm
theorem Mem.focus1 {w : World} (i : Nat) {r : Reg} (hM : Mem w0 T w) (hi : T[i]? = some r) : ∃ fr, Mem w0 [r, fr] w ∧ (∀ m q, T[m]? = some q → m ≠ i → ∀ w1, fr.ok w1 → q.ok w1) ∧ ∀ r' G w', Mem w0 (r' :: fr :: G) w' → Mem w0 (T.set i r' ++ G) w' := by
  have hlt : i < T.length := (List.getElem?_eq_some_iff.1 hi).1
  obtain ⟨h1, h2⟩ := Mem.pack (F := [r]) (hM.perm (perm_front hi))
  refine ⟨_, h1, fun m q hm hne w1 ho => (all_ok _ w1).1 ho q (mem_eraseIdx hm hne), fun r' G w' h' => (h2 [r'] G w' h').perm ?_⟩
  have := perm_front (T := T.set i r') (i := i) (r := r') (by rw [List.getElem?_set_self hlt])
  rw [List.eraseIdx_set_eq] at this
  exact (this.append_right G).symm
variable {o : Oper}
theorem gop_does1 {f : FuncId} {args : Array Value} (i : Nat) (Ψ : Value → Reg → List Reg → Prop) (he : ∀ w, (execOp (ev ρ) o).run P w = .ok (.enter f args) w) {r : Reg} (hi : T[i]? = some r)
    (hc : ∀ w fr, (∀ m q, T[m]? = some q → m ≠ i → ∀ w1, fr.ok w1 → q.ok w1) → Mem w0 [r, fr] w → Calls P f args w (fun e w' => ∃ v r' G, e = .returned v ∧ Ψ v r' G ∧ Mem w0 (r' :: fr :: G) w'))
    (hg : o.guard = none) (hd : o.dst = some d) (hlt : Nat.blt d n.n = true)
    (h : ∀ v r' G, Ψ v r' G → gops P n w0 full rest N (upd ρ d v) (T.set i r' ++ G)) : gops P n w0 full (o :: rest) N ρ T :=
  gop_call he (fun w hM => by
    obtain ⟨fr, h1, h2, h3⟩ := hM.focus1 i hi
    exact (hc w fr h2 h1).mono fun _ w' ⟨v, r', G, he, hΨ, hM'⟩ => ⟨v, he, h v r' G hΨ w' (h3 r' G w' hM')⟩) hg hd hlt
end
end Go.Cf
namespace Go.Cf
open Go.RowKit
section
variable {w0 : World} {T : List Reg}
theorem weak_emp (i : Nat) {r : Reg} (hi : T[i]? = some r) : Weak w0 T (T.set i emp) := fun _ hM =>
  hM.upd hi (Chg.of_below (Below.refl _ _)) trivial (fun _ h => h.elim)
end
end Go.Cf
namespace Go.Cf
open Go.RowKit
section
variable {w0 : World} {T : List Reg}
theorem weak_boxrow (i : Nat) {α : Type} {f : α → List Value} {l : List α} {size b : Nat} {e : TypeId} {cs : Array Value} (hi : T[i]? = some (box b (.cells cs e))) (hf : ∀ x, (f x).length = size) (hl : cs.toList = l.flatMap f) (hm : l.length ≤ maxLen) :
    Weak w0 T (T.set i (rowl f w0.heap.size e size (.slice (some ⟨b, 0, none⟩) l.length l.length) l)) := fun w hM => by
  have hb : w.heap[b]? = some (.cells cs e (0, 0)) := hM.ok _ (List.mem_of_getElem? hi)
  have hlt := hM.lt _ (List.mem_of_getElem? hi) b rfl
  refine hM.upd hi (Chg.of_below (Below.refl _ _)) ⟨flat_len hf l, .inr ⟨b, l.length, cs, rfl, hM.ge _ (List.mem_of_getElem? hi) b rfl, hb, Nat.le_refl _, hm, ?_, ?_⟩⟩ (fun k hk => ?_)
  · rw [← Array.length_toList, hl, flat_len hf]
  · rw [hl, List.take_of_length_le (by rw [flat_len hf]; omega)]
  · have hk' : some b = some k := hk
    injection hk' with hk'
    subst hk'
    exact ⟨.inl rfl, hlt⟩
variable {P : Program} {ρ : Env} {dst : Option Tmp} {ty : TypeId} {pos : String} {af : Array Edge} {gd : Option (Nat × Bool)} {x z : Operand} {t : TypeId}
theorem y_trunc {e : TypeId} {s g len cap m : Nat} {hi : Int} {kh : IntKind} (ht : P.underlying t = some (.slice e)) (hs : ∀ w, (sizeOf e).run P w = .ok s w)
    (hx : ev ρ x = .slice (some ⟨g, 0, none⟩) len cap) (hz : ev ρ z = .int kh hi) (h0 : 0 ≤ hi) (h2 : hi ≤ cap) (hm : hi.toNat = m) :
    Yield P w0 T ρ ⟨dst, .slice t x none (some z) none, ty, pos, af, gd⟩ (.slice (some ⟨g, 0, none⟩) m cap) := by
  have h := y_slice_hi (P := P) (w0 := w0) (T := T) (dst := dst) (ty := ty) (pos := pos) (af := af) (gd := gd) ht hs hx hz h0 h2
  subst hm
  have e1 : sliced (some ⟨g, 0, none⟩) 0 hi.toNat cap s = .slice (some ⟨g, 0, none⟩) hi.toNat cap := by
    unfold sliced
    simp [Addr.add_lit]
  rwa [e1] at h
end
end Go.Cf
namespace Go.Cf
open Go.RowKit
section
variable {P : Program} {w0 : World} {T : List Reg} {ρ : Env} {dst : Option Tmp} {ty : TypeId} {pos : String} {af : Array Edge} {gd : Option (Nat × Bool)} {x y : Operand} {t e : TypeId}
theorem y_max {a b : Int} {ats : Array TypeId} (hx : ev ρ x = .int .i64 a) (hy : ev ρ y = .int .i64 b) :
    Yield P w0 T ρ ⟨dst, .call { callee := .builtin .max, args := #[x, y], argTypes := ats }, ty, pos, af, gd⟩ (.int .i64 (max a b)) := fun w _ => by
  have h : max a b = if a < b then b else a := by split <;> omega
  rw [h]
  simp [execOp, resolve, invoke, builtin, hx, hy, Builtin.max_, Builtin.max2]
end
end Go.Cf
namespace Go.Cf
open Go.RowKit
structure LC where
  l : List Int
  A : Option Addr
  c : Nat
abbrev lcCells (a : LC) : List Value := [.slice a.A a.l.length a.c]
theorem wide_lc : Wide lcCells 1 := fun _ => ⟨rfl, by simp [lcCells, Value.oneCell']⟩
structure LCR (w : World) (lo : Nat) (a : LC) : Prop where
  rd : Rdl w lo 1 intCells a.A a.l
structure DepsR (w : World) (lo : Nat) (A : Option Addr) (d : List LC) : Prop where
  rd : Rdl w lo 1 lcCells A d
  each : ∀ a ∈ d, LCR w lo a
abbrev ll (d : List LC) : List (List Int) := d.map LC.l
def Inc (l : List Int) : Prop := ∀ i (h : i + 1 < l.length), l[i] < l[i + 1]
structure Down (d : List (List Int)) : Prop where
  len : d.length ≤ 24
  lt : ∀ i (h : i < d.length), ∀ n ∈ d[i], 0 ≤ n ∧ n < i
  inc : ∀ i (h : i < d.length), Inc d[i]
theorem inc_len {l : List Int} {b : Int} (hi : Inc l) (h : ∀ n ∈ l, 0 ≤ n ∧ n < b) : (l.length : Int) ≤ b ∨ l = [] := by
  by_cases hl : l = []
  · exact .inr hl
  · left
    have key : ∀ k (hk : k < l.length), (k : Int) ≤ l[k] := by
      intro k
      induction k with
      | zero => intro hk; exact (h _ (List.getElem_mem hk)).1
      | succ k ih =>
        intro hk
        have h1 := ih (by omega)
        have h2 := hi k hk
        omega
    have hp : 0 < l.length := List.length_pos_iff.2 hl
    have h1 := key (l.length - 1) (by omega)
    have h2 := (h _ (List.getElem_mem (show l.length - 1 < l.length by omega))).2
    omega
def levN (l : List Int) (out : List Int) : Int := l.foldl (fun m n => max m (out[n.toNat]?.getD 0 + 1)) 0
def levTo (d : List (List Int)) : Nat → List Int
  | 0 => []
  | k + 1 => levTo d k ++ [levN (d[k]?.getD []) (levTo d k)]
theorem levTo_len (d : List (List Int)) : ∀ k, (levTo d k).length = k
  | 0 => rfl
  | k + 1 => by rw [levTo, List.length_append, levTo_len d k]; rfl
theorem levTo_get (d : List (List Int)) : ∀ (m k : Nat), k < m → (levTo d m)[k]? = some (levN (d[k]?.getD []) (levTo d k))
  | 0, k, h => by omega
  | m + 1, k, h => by
    rw [levTo]
    rcases Nat.lt_or_ge k m with h1 | h1
    · rw [List.getElem?_append_left (by rw [levTo_len]; exact h1)]; exact levTo_get d m k h1
    · obtain rfl : k = m := by omega
      rw [List.getElem?_append_right (by rw [levTo_len]; exact Nat.le_refl _), levTo_len, Nat.sub_self]; rfl
theorem lev_ge : ∀ (l : List Int) (out : List Int) (m : Int), m ≤ l.foldl (fun m n => max m (out[n.toNat]?.getD 0 + 1)) m
  | [], _, m => Int.le_refl _
  | n :: l, out, m => by
    rw [List.foldl_cons]
    exact Int.le_trans (Int.le_max_left _ _) (lev_ge l out _)
theorem lev_nonneg (d : List (List Int)) : ∀ k, ∀ x ∈ levTo d k, 0 ≤ x
  | 0, x, h => by cases h
  | k + 1, x, h => by
    rw [levTo] at h
    rcases List.mem_append.1 h with h | h
    · exact lev_nonneg d k x h
    · rw [List.mem_singleton.1 h]; exact lev_ge _ _ 0
theorem lev_zero {out : List Int} : levN [] out = 0 := rfl
theorem lev_pos {l : List Int} {out : List Int} (hne : l ≠ []) (ho : ∀ x ∈ out, 0 ≤ x) : 1 ≤ levN l out := by
  cases l with
  | nil => exact absurd rfl hne
  | cons n l =>
    rw [levN, List.foldl_cons]
    refine Int.le_trans ?_ (lev_ge l out _)
    have h0 : 0 ≤ out[n.toNat]?.getD 0 := by
      cases h : out[n.toNat]? with
      | none => exact Int.le_refl _
      | some x => exact ho x (List.mem_of_getElem? h)
    omega
end Go.Cf
namespace Go.Cf
theorem down_at {d : List LC} {k : Nat} (h : Down (ll d)) (hk : k < d.length) : (∀ n ∈ d[k].l, 0 ≤ n ∧ n < (k : Int)) ∧ Inc d[k].l := by
  have h1 := h.lt k (by simpa using hk)
  have h2 := h.inc k (by simpa using hk)
  rw [List.getElem_map] at h1 h2
  exact ⟨h1, h2⟩
end Go.Cf
namespace Go.Proofs.YtlmhppnbcbadbaaDoor
open Go.RowKit Go.Cf
set_option maxRecDepth 10000
theorem bd25_  : Tryd.prog.built 25 [] = some #[.int .i64 0, .int .i64 0] := by kernel_rfl
set_option maxHeartbeats 1000000 in
theorem dgList_any (w : World) (A : Option Addr) (c : Nat) (l : List Int) (hl : Rdl w 0 1 intCells A l) (hlm : l.length ≤ maxLen) (b : Int) (hb : ∀ n ∈ l, 0 ≤ n ∧ n < b) (hi : Inc l) : Calls Tryd.prog 23 #[.slice A l.length c, .int .i64 b] w fun e w' => e = .returned (.int .i64 0) ∧ Below w.heap.size w w' := by
  have hmx : maxLen = 9223372036854775807 := rfl
  refine gcalls Tryd.func23 rfl Tryd.ntmps23 (Nat.le_of_ble_eq_true rfl) ?_
  refine gfrom [(0, .slice _ _ _), (1, .int _ _)] ⟨rfl, rfl, trivial⟩ fun σ => ?_
  refine gseq fun N1 hN1 => ?_
  refine greg ?_
  refine gop (y_assign (v := .int _ _) rfl) rfl rfl rfl ?_
  refine gops_nil ?_
  refine hN1 _ _ ?_
  refine gfrom [(0, .slice _ _ _), (1, .int _ _)] ⟨rfl, rfl, trivial⟩ fun σ => ?_
  refine gseq fun N2 hN2 => ?_
  refine gseq fun N3 hN3 => ?_
  refine greg ?_
  refine gop (y_move (v := .slice _ _ _) rfl) rfl rfl rfl ?_
  refine gop (y_len Tryd.underlying28 rfl) rfl rfl rfl ?_
  refine gop (y_move (v := .int _ _) rfl) rfl rfl rfl ?_
  refine gops_nil ?_
  refine hN3 _ _ ?_
  refine gfrom [(0, .slice _ _ _), (1, .int _ _), (7, .slice _ _ _), (8, .int _ _), (9, .int _ _)] ⟨rfl, rfl, rfl, rfl, rfl, trivial⟩ fun σ => ?_
  refine gblock ?_
  refine gfrom2 [(9, .int _ _)] [(0, .slice _ _ _), (1, .int _ _), (7, .slice _ _ _), (8, .int _ _)] ⟨rfl, trivial⟩ ⟨rfl, rfl, rfl, rfl, trivial⟩ fun σ => ?_
  refine gloop2 (G := Nat) (fun k => k ≤ l.length) (fun k => l.length - k) (fun k => [(9, .int .i64 (k : Int))]) (fun k => []) (0) ?h0 ⟨rfl, trivial⟩ ⟨rfl, rfl, rfl, rfl, trivial⟩ rfl ?round
  case h0 => exact Nat.zero_le _
  case round =>
    intro k hφ σ
    have hk : k ≤ l.length := hφ
    refine gseq fun N4 hN4 => ?_
    refine greg ?_
    refine gop (y_lss rfl rfl) rfl rfl rfl ?_
    refine gops_nil ?_
    refine hN4 _ _ ?_
    refine gfrom [(0, .slice _ _ _), (1, .int _ _), (7, .slice _ _ _), (8, .int _ _), (9, .int _ _), (10, .bool _)] ⟨rfl, rfl, rfl, rfl, rfl, rfl, trivial⟩ fun σ => ?_
    refine gseq fun N5 hN5 => ?_
    refine gcond (b := _) rfl (fun hc10 => ?_) (fun hc10 => ?_)
    · 
      replace hc10 := of_decide_eq_true hc10
      have hk1 : k < l.length := by omega
      obtain ⟨ad, rfl, -, hca⟩ := hl.at_ hk1
      obtain ⟨hn0, hn1⟩ := hb _ (List.getElem_mem hk1)
      refine gskip ?_
      refine hN5 _ _ ?_
      refine gfrom [(0, .slice _ _ _), (1, .int _ _), (7, .slice _ _ _), (8, .int _ _), (9, .int _ _)] ⟨rfl, rfl, rfl, rfl, rfl, trivial⟩ fun σ => ?_
      refine gseq fun N6 hN6 => ?_
      refine gblock ?_
      refine gseq fun N7 hN7 => ?_
      refine greg ?_
      refine gop (y_move (v := .int _ _) rfl) rfl rfl rfl ?_
      refine gop (y_indexAddr (m := k) Tryd.underlying28 Tryd.sizeOf3 rfl rfl (by omega) (by omega) (by omega)) rfl rfl rfl ?_
      refine gop (y_load Tryd.isAgg3 rfl (cell_base (hca 0 _ rfl))) rfl rfl rfl ?_
      refine gop (y_assign (v := .int _ _) rfl) rfl rfl rfl ?_
      refine gop (y_assign (v := .int _ _) rfl) rfl rfl rfl ?_
      refine gops_nil ?_
      refine hN7 _ _ ?_
      refine gfrom [(0, .slice _ _ _), (1, .int _ _), (5, .int _ _), (6, .int _ _), (7, .slice _ _ _), (8, .int _ _), (9, .int _ _)] ⟨rfl, rfl, rfl, rfl, rfl, rfl, rfl, trivial⟩ fun σ => ?_
      refine gseq fun N8 hN8 => ?_
      refine gseq fun N9 hN9 => ?_
      refine greg ?_
      refine gop (y_move (v := .int _ _) rfl) rfl rfl rfl ?_
      refine gop (y_lss rfl rfl) rfl rfl rfl ?_
      refine gop (y_move (v := .bool _) rfl) rfl rfl rfl ?_
      refine gop_if (want := false) rfl rfl rfl rfl rfl rfl (fun hg16 => ?_) (fun hg16 => ?_)
      · 
        have hg16d := of_decide_eq_false hg16
        refine gop (y_bare (y_move (v := .int _ _) rfl)) rfl rfl rfl ?_
        refine gop_on rfl rfl rfl rfl hg16 ?_
        refine gop (y_bare (y_move (v := .int _ _) rfl)) rfl rfl rfl ?_
        refine gop_on rfl rfl rfl rfl hg16 ?_
        refine gop (y_bare (y_geq rfl rfl)) rfl rfl rfl ?_
        refine gop (y_pick_f (v := .bool _) rfl hg16 rfl) rfl rfl rfl ?_
        refine gops_nil ?_
        refine hN9 _ _ ?_
        refine gfrom [(0, .slice _ _ _), (1, .int _ _), (5, .int _ _), (6, .int _ _), (7, .slice _ _ _), (8, .int _ _), (9, .int _ _), (20, .bool _)] ⟨rfl, rfl, rfl, rfl, rfl, rfl, rfl, rfl, trivial⟩ fun σ => ?_
        refine gcond (b := _) rfl (fun hc20 => ?_) (fun hc20 => ?_)
        · 
           exfalso; have h9 := of_decide_eq_true hc20; omega
        · 
          replace hc20 := of_decide_eq_false hc20
          refine gskip ?_
          refine hN8 _ _ ?_
          refine gfrom [(0, .slice _ _ _), (1, .int _ _), (5, .int _ _), (6, .int _ _), (7, .slice _ _ _), (8, .int _ _), (9, .int _ _)] ⟨rfl, rfl, rfl, rfl, rfl, rfl, rfl, trivial⟩ fun σ => ?_
          refine gseq fun N10 hN10 => ?_
          refine greg ?_
          refine gop (y_move (v := .int _ _) rfl) rfl rfl rfl ?_
          refine gop (y_gtr rfl rfl) rfl rfl rfl ?_
          refine gop (y_move (v := .bool _) rfl) rfl rfl rfl ?_
          refine gop_if (want := true) rfl rfl rfl rfl rfl rfl (fun hg23 => ?_) (fun hg23 => ?_)
          · 
            have hg23d := of_decide_eq_true hg23
            obtain ⟨ad2, hq2, -, hcb2⟩ := hl.at_ (show k - 1 < l.length by omega)
            cases hq2
            refine gop (y_bare (y_move (v := .int _ _) rfl)) rfl rfl rfl ?_
            refine gop_on rfl rfl rfl rfl hg23 ?_
            refine gop (y_bare (y_move (v := .slice _ _ _) rfl)) rfl rfl rfl ?_
            refine gop_on rfl rfl rfl rfl hg23 ?_
            refine gop (y_bare (y_move (v := .int _ _) rfl)) rfl rfl rfl ?_
            refine gop_on rfl rfl rfl rfl hg23 ?_
            refine gop (y_bare (y_sub rfl rfl ⟨by omega, by omega⟩)) rfl rfl rfl ?_
            refine gop_on rfl rfl rfl rfl hg23 ?_
            refine gop (y_bare (y_indexAddr (m := k - 1) Tryd.underlying28 Tryd.sizeOf3 rfl rfl (by omega) (by omega) (by omega))) rfl rfl rfl ?_
            refine gop_on rfl rfl rfl rfl hg23 ?_
            refine gop (y_bare (y_load Tryd.isAgg3 rfl (cell_base (hcb2 0 _ rfl)))) rfl rfl rfl ?_
            refine gop_on rfl rfl rfl rfl hg23 ?_
            refine gop (y_bare (y_leq rfl rfl)) rfl rfl rfl ?_
            refine gop (y_pick_t (v := .bool _) rfl hg23 rfl) rfl rfl rfl ?_
            refine gops_nil ?_
            refine hN10 _ _ ?_
            refine gfrom [(0, .slice _ _ _), (1, .int _ _), (7, .slice _ _ _), (8, .int _ _), (9, .int _ _), (31, .bool _)] ⟨rfl, rfl, rfl, rfl, rfl, rfl, trivial⟩ fun σ => ?_
            refine gcond (b := _) rfl (fun hc31 => ?_) (fun hc31 => ?_)
            · 
               first | (cases hc31; done) | (exfalso; have h9 := of_decide_eq_true hc31; have h8 := hi (k - 1) (by omega); have h7 : l[k - 1 + 1]'(by omega) = l[k] := (by congr 1; omega); omega)
            · 
              replace hc31 := of_decide_eq_false hc31
              refine gskip ?_
              refine hN6 _ _ ?_
              refine gfrom [(0, .slice _ _ _), (1, .int _ _), (7, .slice _ _ _), (8, .int _ _), (9, .int _ _)] ⟨rfl, rfl, rfl, rfl, rfl, trivial⟩ fun σ => ?_
              refine greg ?_
              refine gop (y_add rfl rfl ⟨by omega, by omega⟩) rfl rfl rfl ?_
              refine gop (y_move (v := .int _ _) rfl) rfl rfl rfl ?_
              refine gops_nil ?_
              refine gnext2 (k + 1) (by omega) (show k + 1 ≤ _ by omega) ⟨rfl, trivial⟩ ⟨rfl, rfl, rfl, rfl, trivial⟩ ⟨_, rfl⟩
          · 
            have hg23d := of_decide_eq_false hg23
            refine gop_off rfl rfl rfl rfl hg23 rfl rfl ?_
            refine gop_off rfl rfl rfl rfl hg23 rfl rfl ?_
            refine gop_off rfl rfl rfl rfl hg23 rfl rfl ?_
            refine gop_off rfl rfl rfl rfl hg23 rfl rfl ?_
            refine gop_off rfl rfl rfl rfl hg23 rfl rfl ?_
            refine gop_off rfl rfl rfl rfl hg23 rfl rfl ?_
            refine gop (y_pick_f (v := .bool _) rfl hg23 rfl) rfl rfl rfl ?_
            refine gops_nil ?_
            refine hN10 _ _ ?_
            refine gfrom [(0, .slice _ _ _), (1, .int _ _), (7, .slice _ _ _), (8, .int _ _), (9, .int _ _), (31, .bool _)] ⟨rfl, rfl, rfl, rfl, rfl, rfl, trivial⟩ fun σ => ?_
            refine gcond (b := _) rfl (fun hc31 => ?_) (fun hc31 => ?_)
            · 
              cases hc31
            · 
              refine gskip ?_
              refine hN6 _ _ ?_
              refine gfrom [(0, .slice _ _ _), (1, .int _ _), (7, .slice _ _ _), (8, .int _ _), (9, .int _ _)] ⟨rfl, rfl, rfl, rfl, rfl, trivial⟩ fun σ => ?_
              refine greg ?_
              refine gop (y_add rfl rfl ⟨by omega, by omega⟩) rfl rfl rfl ?_
              refine gop (y_move (v := .int _ _) rfl) rfl rfl rfl ?_
              refine gops_nil ?_
              refine gnext2 (k + 1) (by omega) (show k + 1 ≤ _ by omega) ⟨rfl, trivial⟩ ⟨rfl, rfl, rfl, rfl, trivial⟩ ⟨_, rfl⟩
      · 
         exfalso; first | (have h9 := of_decide_eq_true hg16; omega) | (simp at hg16; omega)
    · 
      replace hc10 := of_decide_eq_false hc10
      refine gexit ?_
      refine hN2 _ _ ?_
      refine gfrom [] trivial fun σ => ?_
      refine gseq fun N11 hN11 => ?_
      refine greg ?_
      refine gop (y_assign (v := .int _ _) rfl) rfl rfl rfl ?_
      refine gops_nil ?_
      refine hN11 _ _ ?_
      refine gfrom [(4, .int _ _)] ⟨rfl, trivial⟩ fun σ => ?_
      refine gret fun w1 hM => ?_
      refine ⟨_, res1 rfl (rt (v := .int _ _) rfl), ?_⟩
      exact ⟨rfl, hM.low⟩
set_option maxHeartbeats 2000000 in
theorem dgValidate_any (w : World) (A : Option Addr) (c : Nat) (d : List LC) (hd : DepsR w 0 A d) (hlc : d.length ≤ c) (hcm : c ≤ maxLen) (hD : Down (ll d)) : Calls Tryd.prog 17 #[.slice A d.length c] w fun e w' => e = .returned (fv ⟨0, 0⟩) ∧ Below w.heap.size w w' := by
  have hmx : maxLen = 9223372036854775807 := rfl
  have hlen : d.length ≤ 24 := by have h9 := hD.len; simpa using h9
  refine gcalls Tryd.func17 rfl Tryd.ntmps17 (Nat.le_of_ble_eq_true rfl) ?_
  refine gfrom [(0, .slice _ _ _)] ⟨rfl, trivial⟩ fun σ => ?_
  refine gseq fun N1 hN1 => ?_
  refine greg ?_
  refine gop_alloc (cs := #[.int .i64 0, .int .i64 0]) Tryd.zeroValue25 rfl rfl (fun b2 hb2 => ?_)
  refine gops_nil ?_
  refine hN1 _ _ ?_
  refine gT [box b2 _] rfl ?_
  refine gfrom [(0, .slice _ _ _), (2, .pointer _)] ⟨rfl, rfl, trivial⟩ fun σ => ?_
  refine gseq fun N2 hN2 => ?_
  refine gseq fun N3 hN3 => ?_
  refine greg ?_
  refine gop (y_move (v := .slice _ _ _) rfl) rfl rfl rfl ?_
  refine gop (y_len Tryd.underlying33 rfl) rfl rfl rfl ?_
  refine gop (y_gtr rfl rfl) rfl rfl rfl ?_
  refine gops_nil ?_
  refine hN3 _ _ ?_
  refine gfrom [(0, .slice _ _ _), (2, .pointer _), (8, .bool _)] ⟨rfl, rfl, rfl, trivial⟩ fun σ => ?_
  refine gcond (b := _) rfl (fun hc8 => ?_) (fun hc8 => ?_)
  · 
     exfalso; have h9 := of_decide_eq_true hc8; omega
  · 
    replace hc8 := of_decide_eq_false hc8
    refine gskip ?_
    refine hN2 _ _ ?_
    refine gfrom [(0, .slice _ _ _), (2, .pointer _)] ⟨rfl, rfl, trivial⟩ fun σ => ?_
    refine gseq fun N4 hN4 => ?_
    refine gseq fun N5 hN5 => ?_
    refine greg ?_
    refine gop (y_move (v := .slice _ _ _) rfl) rfl rfl rfl ?_
    refine gop (y_len Tryd.underlying33 rfl) rfl rfl rfl ?_
    refine gop (y_move (v := .int _ _) rfl) rfl rfl rfl ?_
    refine gops_nil ?_
    refine hN5 _ _ ?_
    refine gfrom [(0, .slice _ _ _), (2, .pointer _), (10, .slice _ _ _), (11, .int _ _), (12, .int _ _)] ⟨rfl, rfl, rfl, rfl, rfl, trivial⟩ fun σ => ?_
    refine gblock ?_
    refine gfrom2 [(12, .int _ _)] [(0, .slice _ _ _), (2, .pointer _), (10, .slice _ _ _), (11, .int _ _)] ⟨rfl, trivial⟩ ⟨rfl, rfl, rfl, rfl, trivial⟩ fun σ => ?_
    refine gloop2 (G := Nat) (fun k => k ≤ d.length) (fun k => d.length - k) (fun k => [(12, .int .i64 (k : Int))]) (fun k => []) (0) ?h0 ⟨rfl, trivial⟩ ⟨rfl, rfl, rfl, rfl, trivial⟩ rfl ?round
    case h0 => exact Nat.zero_le _
    case round =>
      intro k hφ σ
      have hk : k ≤ d.length := hφ
      refine gseq fun N6 hN6 => ?_
      refine greg ?_
      refine gop (y_lss rfl rfl) rfl rfl rfl ?_
      refine gops_nil ?_
      refine hN6 _ _ ?_
      refine gfrom [(0, .slice _ _ _), (2, .pointer _), (10, .slice _ _ _), (11, .int _ _), (12, .int _ _), (13, .bool _)] ⟨rfl, rfl, rfl, rfl, rfl, rfl, trivial⟩ fun σ => ?_
      refine gseq fun N7 hN7 => ?_
      refine gcond (b := _) rfl (fun hc13 => ?_) (fun hc13 => ?_)
      · 
        replace hc13 := of_decide_eq_true hc13
        have hk1 : k < d.length := by omega
        obtain ⟨ad, rfl, -, hca⟩ := hd.rd.at_ hk1
        obtain ⟨hR⟩ := hd.each _ (List.getElem_mem hk1)
        obtain ⟨hlt, hinc⟩ := down_at hD hk1
        have hdl : d[k].l.length ≤ 24 := by
          rcases inc_len hinc (b := (k : Int)) hlt with h9 | h9
          · omega
          · rw [h9]; exact Nat.zero_le _
        refine gskip ?_
        refine hN7 _ _ ?_
        refine gfrom [(0, .slice _ _ _), (2, .pointer _), (10, .slice _ _ _), (11, .int _ _), (12, .int _ _)] ⟨rfl, rfl, rfl, rfl, rfl, trivial⟩ fun σ => ?_
        refine gseq fun N8 hN8 => ?_
        refine gblock ?_
        refine gseq fun N9 hN9 => ?_
        refine greg ?_
        refine gop (y_move (v := .int _ _) rfl) rfl rfl rfl ?_
        refine gop (y_indexAddr (m := k) Tryd.underlying33 Tryd.sizeOf28 rfl rfl (by omega) (by omega) (by omega)) rfl rfl rfl ?_
        refine gop (y_load Tryd.isAgg28 rfl (cell_base (hca 0 _ rfl))) rfl rfl rfl ?_
        refine gop (y_assign (v := .int _ _) rfl) rfl rfl rfl ?_
        refine gop (y_assign (v := .slice _ _ _) rfl) rfl rfl rfl ?_
        refine gops_nil ?_
        refine hN9 _ _ ?_
        refine gfrom [(0, .slice _ _ _), (2, .pointer _), (3, .int _ _), (4, .slice _ _ _), (10, .slice _ _ _), (11, .int _ _), (12, .int _ _)] ⟨rfl, rfl, rfl, rfl, rfl, rfl, rfl, trivial⟩ fun σ => ?_
        refine gseq fun N10 hN10 => ?_
        refine greg ?_
        refine gop (y_move (v := .slice _ _ _) rfl) rfl rfl rfl ?_
        refine gop (y_move (v := .slice _ _ _) rfl) rfl rfl rfl ?_
        refine gop (y_len Tryd.underlying33 rfl) rfl rfl rfl ?_
        refine gop_pure (e_call (vs := [.slice _ _ _, .int _ _]) Tryd.func23 rfl (by kernel_rfl) rfl) (fun w hM => dgList_any w d[k].A d[k].c d[k].l (hR.base hM) (by omega) _ (fun n hn => by have h9 := hlt n hn; omega) hinc) rfl rfl rfl ?_
        refine gop (y_assign (v := .int _ _) rfl) rfl rfl rfl ?_
        refine gops_nil ?_
        refine hN10 _ _ ?_
        refine gfrom [(0, .slice _ _ _), (2, .pointer _), (3, .int _ _), (5, .int _ _), (10, .slice _ _ _), (11, .int _ _), (12, .int _ _)] ⟨rfl, rfl, rfl, rfl, rfl, rfl, rfl, trivial⟩ fun σ => ?_
        refine gseq fun N11 hN11 => ?_
        refine greg ?_
        refine gop (y_move (v := .int _ _) rfl) rfl rfl rfl ?_
        refine gop (y_neq rfl rfl) rfl rfl rfl ?_
        refine gops_nil ?_
        refine hN11 _ _ ?_
        refine gfrom [(0, .slice _ _ _), (2, .pointer _), (3, .int _ _), (5, .int _ _), (10, .slice _ _ _), (11, .int _ _), (12, .int _ _), (22, .bool _)] ⟨rfl, rfl, rfl, rfl, rfl, rfl, rfl, rfl, trivial⟩ fun σ => ?_
        refine gcond (b := _) rfl (fun hc22 => ?_) (fun hc22 => ?_)
        · 
           exact absurd hc22 (by simp)
        · 
          replace hc22 := Decidable.not_not.1 (of_decide_eq_false hc22)
          refine gskip ?_
          refine hN8 _ _ ?_
          refine gfrom [(0, .slice _ _ _), (2, .pointer _), (10, .slice _ _ _), (11, .int _ _), (12, .int _ _)] ⟨rfl, rfl, rfl, rfl, rfl, trivial⟩ fun σ => ?_
          refine greg ?_
          refine gop (y_add rfl rfl ⟨by omega, by omega⟩) rfl rfl rfl ?_
          refine gop (y_move (v := .int _ _) rfl) rfl rfl rfl ?_
          refine gops_nil ?_
          refine gnext2 (k + 1) (by omega) (show k + 1 ≤ _ by omega) ⟨rfl, trivial⟩ ⟨rfl, rfl, rfl, rfl, trivial⟩ ⟨_, rfl⟩
      · 
        replace hc13 := of_decide_eq_false hc13
        refine gexit ?_
        refine hN4 _ _ ?_
        refine gfrom [(2, .pointer _)] ⟨rfl, trivial⟩ fun σ => ?_
        refine gseq fun N12 hN12 => ?_
        refine greg ?_
        refine gop (y_build (vs := []) (cells := #[.int .i64 0, .int .i64 0]) rfl bd25_) rfl rfl rfl ?_
        refine gop_store 0 (v := .agg #[_, _]) (cs' := #[_, _]) rfl rfl Tryd.sizeOf25 rfl rfl rfl rfl (Nat.le_of_ble_eq_true rfl) rfl rfl ?_
        refine gops_nil ?_
        refine hN12 _ _ ?_
        refine gT [box b2 _] rfl ?_
        refine gfrom [(2, .pointer _)] ⟨rfl, trivial⟩ fun σ => ?_
        refine gret fun w1 hM => ?_
        refine ⟨_, res1 rfl (rc 0 (cs := [_, _]) hM rfl rfl Tryd.isAgg25 Tryd.sizeOf25 rfl), ?_⟩
        exact ⟨rfl, hM.low⟩
end Go.Proofs.YtlmhppnbcbadbaaDoor
namespace Go.Cf
open Go.RowKit
def sumN (l : List Int) : Nat := (l.map Int.toNat).sum
theorem sum_set {l : List Int} {i : Nat} {x : Int} (hi : i < l.length) (hx : 0 ≤ x) (h : x < l[i]) : sumN (l.set i x) < sumN l := by
  induction l generalizing i with
  | nil => simp at hi
  | cons a l ih =>
    cases i with
    | zero =>
      simp only [List.getElem_cons_zero] at h
      simp only [sumN, List.set_cons_zero, List.map_cons, List.sum_cons]
      omega
    | succ i =>
      simp only [List.getElem_cons_succ] at h
      have h1 := ih (by simpa using hi) h
      simp only [sumN, List.set_cons_succ, List.map_cons, List.sum_cons] at h1 ⊢
      omega
structure DI (n to : Nat) (out : List Int) : Prop where
  len : out.length = n
  bd : ∀ x ∈ out, 1 ≤ x ∧ x ≤ 1000
  far : ∀ j (h : j < out.length), j ≤ to → out[j] = 1000
def Less2 (b : Bool) (out out0 : List Int) : Prop := (b = false → out = out0) ∧ (b = true → sumN out < sumN out0)
theorem di_set {n to i : Nat} {out : List Int} {x : Int} (h : DI n to out) (hi : to < i) (hx : 1 ≤ x) (hx2 : x ≤ 1000) : DI n to (out.set i x) := by
  refine ⟨by rw [List.length_set]; exact h.len, fun y hy => ?_, fun j hj hjt => ?_⟩
  · rcases List.mem_or_eq_of_mem_set hy with h1 | rfl
    · exact h.bd y h1
    · exact ⟨hx, hx2⟩
  · rw [List.getElem_set_ne (by omega)]
    exact h.far j (by rw [List.length_set] at hj; exact hj) hjt
theorem di_up {n to i : Nat} {out : List Int} {m d : Int} (h : DI n to out) (hi : i < out.length) (hm0 : 0 ≤ m) (hmi : m < i) (hd : d = out[m.toNat]'(by omega) + 1 ∧ m ≠ to ∨ d = 1 ∧ m = to) (hlt : d < out[i]) : to < i ∧ 1 ≤ d ∧ d ≤ 1000 := by
  have hb := h.bd _ (List.getElem_mem hi)
  rcases hd with ⟨hd, hne⟩ | ⟨hd, he⟩
  · have hbm := h.bd _ (List.getElem_mem (show m.toNat < out.length by omega))
    refine ⟨?_, by omega, by omega⟩
    apply Classical.byContradiction
    intro hn
    have := h.far m.toNat (by omega) (by omega)
    omega
  · exact ⟨by omega, by omega, by omega⟩
end Go.Cf
namespace Go.Proofs.YtlmhppnbcbadbaaDoor
open Go.RowKit Go.Cf
def RepeatOk : Prop := ∀ (w : World) (A : Option Addr) (c : Nat) (x : Int) (n : Nat), Rdl w 0 1 intCells A [x] → n ≤ 1000 →
    Calls Tryd.prog 37 #[.slice A 1 c, .int .i64 (n : Int)] w fun e w' => ∃ v T', e = .returned v ∧ T' = [rowl intCells w.heap.size 3 1 v (List.replicate n x)] ∧ Mem w T' w'
end Go.Proofs.YtlmhppnbcbadbaaDoor
namespace Go.Proofs
open Go.Shelf
def Tryd.lays189_ren : Go.Shelf.Ren := ⟨fun | 189 => 15 | 125 => 22 | 257 => 21 | 128 => 35 | 129 => 36 | 294 => 26 | 295 => 27 | 296 => 28 | 297 => 29 | 298 => 30 | 299 => 31 | 216 => 32 | 300 => 33 | 301 => 34 | 328 => 38 | 329 => 39 | 330 => 40 | 331 => 41 | 332 => 42 | 215 => 43 | 343 => 45 | n => n, fun | 28 => 28 | 3 => 3 | 46 => 56 | 0 => 0 | 51 => 69 | 53 => 71 | 4 => 4 | 183 => 61 | 182 => 60 | 131 => 66 | 5 => 5 | 9 => 9 | 218 => 73 | 222 => 77 | 228 => 81 | 229 => 82 | n => n, fun | n => n⟩
theorem Tryd.lays189 : Go.Proofs.Lays.n189 Tryd.prog Tryd.lays189_ren := {
  mixed := by kernel_rfl
  f125 := Tryd.func22.trans (congrArg some (by kernel_rfl))
  f128 := Tryd.func35.trans (congrArg some (by kernel_rfl))
  f129 := Tryd.func36.trans (congrArg some (by kernel_rfl))
  f189 := Tryd.func15.trans (congrArg some (by kernel_rfl))
  f215 := Tryd.func43.trans (congrArg some (by kernel_rfl))
  f216 := Tryd.func32.trans (congrArg some (by kernel_rfl))
  f257 := Tryd.func21.trans (congrArg some (by kernel_rfl))
  f294 := Tryd.func26.trans (congrArg some (by kernel_rfl))
  f295 := Tryd.func27.trans (congrArg some (by kernel_rfl))
  f296 := Tryd.func28.trans (congrArg some (by kernel_rfl))
  f297 := Tryd.func29.trans (congrArg some (by kernel_rfl))
  f298 := Tryd.func30.trans (congrArg some (by kernel_rfl))
  f299 := Tryd.func31.trans (congrArg some (by kernel_rfl))
  f300 := Tryd.func33.trans (congrArg some (by kernel_rfl))
  f301 := Tryd.func34.trans (congrArg some (by kernel_rfl))
  f328 := Tryd.func38.trans (congrArg some (by kernel_rfl))
  f329 := Tryd.func39.trans (congrArg some (by kernel_rfl))
  f330 := Tryd.func40.trans (congrArg some (by kernel_rfl))
  f331 := Tryd.func41.trans (congrArg some (by kernel_rfl))
  f332 := Tryd.func42.trans (congrArg some (by kernel_rfl))
  f343 := Tryd.func45.trans (congrArg some (by kernel_rfl))
  t0 := Tryd.underlying0
  a0 := Tryd.isAgg0
  z0 := Tryd.sizeOf0
  v0 := Tryd.zeroValue0
  t3 := Tryd.underlying3
  a3 := Tryd.isAgg3
  z3 := Tryd.sizeOf3
  v3 := Tryd.zeroValue3
  t4 := Tryd.underlying4
  a4 := Tryd.isAgg4
  z4 := Tryd.sizeOf4
  v4 := Tryd.zeroValue4
  t5 := Tryd.underlying5
  a5 := Tryd.isAgg5
  z5 := Tryd.sizeOf5
  v5 := Tryd.zeroValue5
  t9 := Tryd.underlying9
  a9 := Tryd.isAgg9
  z9 := Tryd.sizeOf9
  v9 := Tryd.zeroValue9
  t28 := Tryd.underlying28
  a28 := Tryd.isAgg28
  z28 := Tryd.sizeOf28
  v28 := Tryd.zeroValue28
  t46 := Tryd.underlying56
  a46 := Tryd.isAgg56
  z46 := Tryd.sizeOf56
  v46 := Tryd.zeroValue56
  t51 := Tryd.underlying69
  a51 := Tryd.isAgg69
  z51 := Tryd.sizeOf69
  v51 := Tryd.zeroValue69
  t53 := Tryd.underlying71
  a53 := Tryd.isAgg71
  z53 := Tryd.sizeOf71
  v53 := Tryd.zeroValue71
  t131 := Tryd.underlying66
  a131 := Tryd.isAgg66
  z131 := Tryd.sizeOf66
  v131 := Tryd.zeroValue66
  t182 := Tryd.underlying60
  a182 := Tryd.isAgg60
  z182 := Tryd.sizeOf60
  v182 := Tryd.zeroValue60
  t183 := Tryd.underlying61
  a183 := Tryd.isAgg61
  z183 := Tryd.sizeOf61
  v183 := Tryd.zeroValue61
  t218 := Tryd.underlying73
  a218 := Tryd.isAgg73
  z218 := Tryd.sizeOf73
  v218 := Tryd.zeroValue73
  t222 := Tryd.underlying77
  a222 := Tryd.isAgg77
  z222 := Tryd.sizeOf77
  v222 := Tryd.zeroValue77
  t228 := Tryd.underlying81
  a228 := Tryd.isAgg81
  z228 := Tryd.sizeOf81
  v228 := Tryd.zeroValue81
  t229 := Tryd.underlying82
  a229 := Tryd.isAgg82
  z229 := Tryd.sizeOf82
  v229 := Tryd.zeroValue82 }
open Go.Sort Go.RowKit in
theorem Tryd.slices_Sort_int (blk off cap : Nat) (zs : List Int) (w : World) (hH : Holds (Value.int .i64) w blk off zs.toArray) (hblk : blk < w.heap.size) (hsz : zs.length < 4611686018427387904) :
    Calls Tryd.prog 15 #[.slice (some ⟨blk, off, none⟩) zs.length cap] w fun e w' =>
      e = .returned (.tuple #[]) ∧ ∃ n os, w' = grow (putRow (Value.int .i64) (Sort.ahead w n) blk off (zs.mergeSort fun x y => decide (x ≤ y)).toArray) os := Any.slices_Sort_int Tryd.lays189 blk off cap zs w hH hblk hsz
def Tryd.lays212_ren : Go.Shelf.Ren := ⟨fun | 212 => 44 | 263 => 46 | 264 => 47 | n => n, fun | 46 => 56 | 51 => 69 | 146 => 84 | 53 => 71 | 148 => 86 | n => n, fun | n => n⟩
theorem Tryd.lays212 : Go.Proofs.Lays.n212 Tryd.prog Tryd.lays212_ren := {
  mixed := by kernel_rfl
  f212 := Tryd.func44.trans (congrArg some (by kernel_rfl))
  f263 := Tryd.func46.trans (congrArg some (by kernel_rfl))
  f264 := Tryd.func47.trans (congrArg some (by kernel_rfl))
  t46 := Tryd.underlying56
  a46 := Tryd.isAgg56
  z46 := Tryd.sizeOf56
  v46 := Tryd.zeroValue56
  t51 := Tryd.underlying69
  a51 := Tryd.isAgg69
  z51 := Tryd.sizeOf69
  v51 := Tryd.zeroValue69
  t53 := Tryd.underlying71
  a53 := Tryd.isAgg71
  z53 := Tryd.sizeOf71
  v53 := Tryd.zeroValue71
  t146 := Tryd.underlying84
  a146 := Tryd.isAgg84
  z146 := Tryd.sizeOf84
  v146 := Tryd.zeroValue84
  t148 := Tryd.underlying86
  a148 := Tryd.isAgg86
  z148 := Tryd.sizeOf86
  v148 := Tryd.zeroValue86 }
open Go.RowKit Go.Lib in

theorem Tryd.bits_Mul (x y : Nat) (hx : x < 18446744073709551616) (hy : y < 18446744073709551616) (w : World) :
    Calls Tryd.prog 44 #[.int .u64 x, .int .u64 y] w fun e w' => e = .returned (.tuple #[.int .u64 ((x * y / 18446744073709551616 : Nat) : Int), .int .u64 ((x * y % 18446744073709551616 : Nat) : Int)]) ∧ w' = w := Any.bits_Mul Tryd.lays212 x y hx hy w
def Tryd.laysNm220_ren : Go.Shelf.Ren := ⟨fun | 20 => 16 | n => n, fun | 22 => 28 | 3 => 3 | 4 => 4 | 0 => 0 | n => n, fun | n => n⟩
theorem Tryd.laysNm220 : Go.Proofs.Lays2.n20 Tryd.prog Tryd.laysNm220_ren := {
  mixed := by kernel_rfl
  f20 := Tryd.func16.trans (congrArg some (by kernel_rfl))
  t0 := Tryd.underlying0
  a0 := Tryd.isAgg0
  z0 := Tryd.sizeOf0
  v0 := Tryd.zeroValue0
  t3 := Tryd.underlying3
  a3 := Tryd.isAgg3
  z3 := Tryd.sizeOf3
  v3 := Tryd.zeroValue3
  t4 := Tryd.underlying4
  a4 := Tryd.isAgg4
  z4 := Tryd.sizeOf4
  v4 := Tryd.zeroValue4
  t22 := Tryd.underlying28
  a22 := Tryd.isAgg28
  z22 := Tryd.sizeOf28
  v22 := Tryd.zeroValue28
  i3 := by kernel_rfl }
open Go.RowKit Go.Lib Go.Sort in

theorem Tryd.slices_Compact_int (blk off cap : Nat) (zs : List Int) (w : World) (hH : Holds (Value.int .i64) w blk off zs.toArray) (hsz : zs.length ≤ 9223372036854775807) (hcap : zs.length ≤ cap) :
    Calls Tryd.prog 16 #[.slice (some ⟨blk, off, none⟩) zs.length cap] w fun e w' => e = .returned (.slice (some ⟨blk, off, none⟩) (Lib.compact zs).length cap) ∧ ∃ q, w' = putRow (Value.int .i64) (Sort.ahead w q) blk off (Lib.compact zs ++ List.replicate (zs.length - (Lib.compact zs).length) 0).toArray := Any.slices_Compact_int Tryd.laysNm220 blk off cap zs w hH hsz hcap
open Go.RowKit Go.Lib Go.Sort in

theorem Tryd.slices_Compact_int_empty (a : Option Addr) (cap : Nat) (w : World) :
    Calls Tryd.prog 16 #[.slice a 0 cap] w fun e w' => e = .returned (.slice a 0 cap) ∧ w' = w := Any.slices_Compact_int_empty Tryd.laysNm220 a cap w
open Go.RowKit Go.Sort in

theorem Tryd.slices_Sort_int_none (p : Option Addr) (cap : Nat) (w : World) :
    Calls Tryd.prog 15 #[.slice p 0 cap] w fun e w' => e = .returned (.tuple #[]) ∧ w' = w := Any.slices_Sort_int_none Tryd.lays189 p cap w
end Go.Proofs
namespace Go.Cf
open Go.RowKit
theorem wrapu_in {x : Int} (h0 : 0 ≤ x) (h1 : x < 18446744073709551616) : IntKind.u64.wrap x = x := by
  have h : IntKind.u64.wrap x = x % 18446744073709551616 := by simp [IntKind.wrap, IntKind.bits, IntKind.signed]
  rw [h]; omega
section
variable {P : Program} {w0 : World} {T : List Reg} {ρ : Env} {dst : Option Tmp} {ty : TypeId} {pos : String} {af : Array Edge} {gd : Option (Nat × Bool)} {x y : Operand} {t yt src d e : TypeId} {a b : Int}
theorem y_toUint (hs : (P.underlying src).isSome = true) (hd : P.underlying d = some (.int .u64)) (hx : ev ρ x = .int .i64 a) (h0 : 0 ≤ a) (h1 : a < 18446744073709551616) : Yield P w0 T ρ ⟨dst, .convert src d x, ty, pos, af, gd⟩ (.int .u64 a) := fun w _ => by
  have hk : P.intKind d = .u64 := by simp [Program.intKind, hd]
  have h := run_convert_int (P := P) w src d .i64 a hs (by rw [hk]; exact hd)
  rw [hk, wrapu_in h0 h1] at h
  simp [execOp, hx, h]
theorem y_ofUint (hs : (P.underlying src).isSome = true) (hd : P.underlying d = some (.int .i64)) (hx : ev ρ x = .int .u64 a) (h0 : 0 ≤ a) (h1 : a < 9223372036854775808) : Yield P w0 T ρ ⟨dst, .convert src d x, ty, pos, af, gd⟩ (.int .i64 a) := fun w _ => by
  have hk : P.intKind d = .i64 := by simp [Program.intKind, hd]
  have h := run_convert_int (P := P) w src d .u64 a hs (by rw [hk]; exact hd)
  rw [hk, wrap_in (show In64 a by unfold In64; omega)] at h
  simp [execOp, hx, h]
end
section
variable {P : Program} {n : Fr} {w0 : World} {N : Env → World → Prop} {ρ : Env} {T : List Reg} {full : Array Oper} {rest : List Oper} {d : Nat} {ty tx : TypeId} {pos : String} {af : Array Edge} {x y : Operand}
theorem gop_copy_row (i : Nat) {α : Type} {f : α → List Value} {g base dl dc sl sc off nn cap m : Nat} {ad : Addr} {e et : TypeId} {l l' : List α} {xs : List Value} {ts : TypeId} {T' : List Reg} (ht : P.underlying tx = some (.slice et)) (hs : ∀ w, (sizeOf et).run P w = .ok 1 w)
    (hx : ev ρ x = .slice (some ⟨g, off, none⟩) dl dc) (hy : ev ρ y = .slice (some ad) sl sc) (hm : Nat.min sl dl = m) (hsrc : ∀ w, Mem w0 T w → ∀ j u, xs[j]? = some u → w.cell? (ad.add j) = some u) (hxm : xs.length = m) (h1 : xs.all Value.oneCell' = true)
    (hi : T[i]? = some (rowl f base e 1 (.slice (some ⟨g, 0, none⟩) nn cap) l)) (hn : nn = l.length) (hoff : off + m ≤ l.length) (hl' : l'.length = l.length) (he : setCells (l.flatMap f) off xs = l'.flatMap f) (hT : T.set i (rowl f base e 1 (.slice (some ⟨g, 0, none⟩) nn cap) l') = T')
    (hlt : Nat.blt d n.n = true) (h : gops P n w0 full rest N (upd ρ d (.int .i64 (m : Int))) T') :
    gops P n w0 full (⟨some d, .call { callee := .builtin .copy, args := #[x, y], argTypes := #[tx, ts] }, ty, pos, af, none⟩ :: rest) N ρ T :=
  gop_w (fun w hM => by
    subst hn
    have hown := hM.own i hi
    obtain ⟨w', hr, ho, hc⟩ := run_storeRow (P := P) (off := off) xs 0 _ w hown (by simpa [List.all_eq_true] using h1) (by omega)
    have hM' : Mem w0 T' w' := by
      subst hT
      refine hM.upd hi ⟨hc.os, hc.tape, hc.output, hc.size, fun j hj hn => hc.block j hj (fun e => hn (by rw [e]; rfl))⟩ ?_ ?_
      · show w'.ownsRow _ _ _ _ l'.length (l'.flatMap f)
        rw [hl', ← he]
        exact ho
      · intro b hb
        have hb' : some g = some b := hb
        injection hb' with hb'
        subst hb'
        exact ⟨.inl rfl, Nat.lt_of_lt_of_le (hM.lt _ (List.mem_of_getElem? hi) g rfl) hc.size⟩
    refine ⟨.int .i64 (m : Int), w', ?_, h w' hM'⟩
    have hfc : (Builtin.firstCells 1 m (.slice (some ad) sl sc)).run P w = .ok xs.toArray w := by
      have hld := run_loadCells_list (P := P) w ad xs (hsrc w hM)
      rw [hxm] at hld
      simpa [Builtin.firstCells] using hld
    simp [execOp, resolve, invoke, builtin, hx, hy, Builtin.copy_, run_underlying ht, hs, Builtin.lenOf, hm, hfc, hr, goInt]) rfl rfl hlt
end
theorem setCells_repl (x y : Int) (k m n : Nat) (h : k + m ≤ n) : setCells ((List.replicate k x ++ List.replicate (n - k) y).flatMap intCells) k ((List.replicate m x).flatMap intCells) = (List.replicate (k + m) x ++ List.replicate (n - (k + m)) y).flatMap intCells := by
  have e1 : ∀ (j : Nat) (z : Int), (List.replicate j z).flatMap intCells = List.replicate j (.int .i64 z) := by
    intro j z
    induction j with
    | zero => rfl
    | succ j ih => rw [List.replicate_succ, List.flatMap_cons, ih]; rfl
  rw [List.flatMap_append, List.flatMap_append, e1, e1, e1, e1, e1]
  have e2 : n - k = m + (n - (k + m)) := by omega
  have e3 : List.replicate (m + (n - (k + m))) (Value.int .i64 y) = List.replicate m (.int .i64 y) ++ List.replicate (n - (k + m)) (.int .i64 y) := by rw [List.replicate_append_replicate]
  rw [e2, e3, ← List.append_assoc]
  have := setCells_mid (List.replicate m (Value.int .i64 x)) (List.replicate k (.int .i64 x)) (List.replicate m (.int .i64 y)) (List.replicate (n - (k + m)) (.int .i64 y)) (by simp)
  rw [List.length_replicate] at this
  rw [this, List.replicate_append_replicate]
theorem row_g {α : Type} {f : α → List Value} {l : List α} {base size n c : Nat} {e : TypeId} {A : Option Addr} {w : World} (h : (rowl f base e size (.slice A n c) l).ok w) (hl : 0 < l.length) : ∃ g, A = some ⟨g, 0, none⟩ := by
  have ho : w.ownsRow base e size (.slice A n c) l.length (l.flatMap f) := h
  rcases ho.2 with ⟨_, h0⟩ | ⟨g, cap, cur, hv, _⟩
  · omega
  · cases hv; exact ⟨g, rfl⟩
theorem di_start (n to : Nat) : DI n to (List.replicate n 1000) := by
  refine ⟨by simp, fun x hx => ?_, fun j hj _ => by simp⟩
  rw [List.eq_of_mem_replicate hx]; omega
theorem less2_refl (out : List Int) : Less2 false out out := ⟨fun _ => rfl, fun h => by cases h⟩
theorem less2_set {b : Bool} {out3 out : List Int} {k : Nat} {dd : Int} (h : Less2 b out3 out) (hk : k < out3.length) (h1 : 1 ≤ dd) (h2 : dd < out3[k]) : Less2 true (out3.set k dd) out := by
  refine ⟨fun h => (by cases h), fun _ => ?_⟩
  have h3 := sum_set hk (by omega) h2
  cases b with
  | false => rw [← h.1 rfl]; exact h3
  | true => exact Nat.lt_trans h3 (h.2 rfl)
def sortI (l : List Int) : List Int := l.mergeSort fun x y => decide (x ≤ y)
def leaf (l : List Int) : List Int := Lib.compact (sortI l)
theorem sortI_len (l : List Int) : (sortI l).length = l.length := by simp [sortI]
theorem sortI_mem {l : List Int} {x : Int} : x ∈ sortI l ↔ x ∈ l := by simp [sortI, List.mem_mergeSort]
theorem sortI_pair (l : List Int) : (sortI l).Pairwise (· ≤ ·) := by
  have h := List.pairwise_mergeSort (le := fun x y : Int => decide (x ≤ y)) (fun a b c h1 h2 => by simp at *; omega) (fun a b => by simp; omega) l
  exact h.imp (fun h => by simpa using h)
theorem compact_sub {l : List Int} {x : Int} (h : x ∈ Lib.compact l) : x ∈ l := by
  unfold Lib.compact Lib.compactUpTo at h
  obtain ⟨j, hj, rfl⟩ := List.mem_map.1 h
  have hj' : j < l.length := List.mem_range.1 (List.mem_filter.1 hj).1
  simp [hj']
theorem compact_inc {l : List Int} (h : l.Pairwise (· ≤ ·)) : (Lib.compact l).Pairwise (· < ·) := by
  unfold Lib.compact Lib.compactUpTo
  rw [List.pairwise_map, List.pairwise_filter]
  refine (List.pairwise_lt_range).imp_of_mem (S := fun i j => Lib.keeps l.toArray i = true → Lib.keeps l.toArray j = true → l.toArray[i]! < l.toArray[j]!) ?_
  intro i j hi hj hij _ hk
  have hj' : j < l.length := List.mem_range.1 hj
  have hk' : j = 0 ∨ l.toArray[j]! ≠ l.toArray[j - 1]! := by simpa [Lib.keeps] using hk
  rcases hk' with h0 | hne
  · omega
  have hp := List.pairwise_iff_getElem.1 h
  have e1 : l.toArray[i]! = l[i] := by simp [show i < l.length by omega]
  have e2 : l.toArray[j]! = l[j] := by simp [hj']
  have e3 : l.toArray[j - 1]! = l[j - 1] := by simp [show j - 1 < l.length by omega]
  have h2 := hp (j - 1) j (by omega) hj' (by omega)
  have h1 : l[i] ≤ l[j - 1] := by
    rcases Nat.lt_or_ge i (j - 1) with h3 | h3
    · exact hp i (j - 1) (by omega) (by omega) h3
    · have : i = j - 1 := by omega
      subst this; exact Int.le_refl _
  rw [e1, e2]
  rw [e2, e3] at hne
  omega
theorem inc_of {l : List Int} (h : l.Pairwise (· < ·)) : Inc l := fun i hi => List.pairwise_iff_getElem.1 h i (i + 1) (by omega) hi (by omega)
theorem leaf_mem {l : List Int} {x : Int} (h : x ∈ leaf l) : x ∈ l := sortI_mem.1 (compact_sub h)
theorem leaf_pair (l : List Int) : (leaf l).Pairwise (· < ·) := compact_inc (sortI_pair l)
theorem compact_le (l : List Int) : (Lib.compact l).length ≤ l.length := Lib.compact_length_le l
theorem repl_cells {w0 : World} {T : List Reg} {x y : Int} {base g nn cap k r m : Nat} {e : TypeId} (i : Nat) (hi : T[i]? = some (rowl intCells base e 1 (.slice (some ⟨g, 0, none⟩) nn cap) (List.replicate k x ++ List.replicate r y))) (hm : m ≤ k) :
    ∀ w, Mem w0 T w → ∀ j u, ((List.replicate m x).flatMap intCells)[j]? = some u → w.cell? ((⟨g, 0, none⟩ : Addr).add j) = some u := fun w hM j u hu => by
  have h := hM.own i hi
  refine h.cells rfl j u ?_
  have hj : j < m := by
    have h1 := (List.getElem?_eq_some_iff.1 hu).1
    rw [flat_len (size := 1) (fun _ => rfl)] at h1
    simpa using h1
  have hu' : u = .int .i64 x := by
    obtain ⟨_, k', z, j', hk', hj', _⟩ := flat_inv (f := intCells) (size := 1) (fun _ => rfl) _ _ _ hu
    have h2 : z = x := List.eq_of_mem_replicate (List.mem_of_getElem? hk')
    subst h2
    exact List.mem_singleton.1 (List.mem_of_getElem? hj')
  have h3 := flat_at (f := intCells) (size := 1) (fun _ => rfl) (List.replicate k x ++ List.replicate r y) j x (by rw [List.getElem?_append_left (by rw [List.length_replicate]; omega), List.getElem?_replicate, if_pos (by omega)]) 0 _ rfl
  rw [hu']; simpa using h3
theorem setCells_repl0 (x y : Int) (m n : Nat) (h : m ≤ n) : setCells ((List.replicate n y).flatMap intCells) 0 ((List.replicate m x).flatMap intCells) = (List.replicate m x ++ List.replicate (n - m) y).flatMap intCells := by
  have := setCells_repl x y 0 m n (by omega)
  simpa using this
section
variable {P : Program} {w0 : World} {T : List Reg} {ρ : Env} {dst : Option Tmp} {ty : TypeId} {pos : String} {af : Array Edge} {gd : Option (Nat × Bool)} {x y : Operand} {t e : TypeId}
theorem y_from {g n k : Nat} {lo : Int} {kl : IntKind} (ht : P.underlying t = some (.slice e)) (hs : ∀ w, (sizeOf e).run P w = .ok 1 w) (hx : ev ρ x = .slice (some ⟨g, 0, none⟩) n n) (hy : ev ρ y = .int kl lo) (hlo : lo.toNat = k) (h0 : 0 ≤ lo) (h1 : k < n) :
    Yield P w0 T ρ ⟨dst, .slice t x (some y) none none, ty, pos, af, gd⟩ (.slice (some ⟨g, k, none⟩) (n - k) (n - k)) := by
  have h := y_slice_lo (P := P) (w0 := w0) (T := T) (dst := dst) (ty := ty) (pos := pos) (af := af) (gd := gd) ht hs hx hy h0 (by omega)
  have e1 : sliced (some ⟨g, 0, none⟩) lo.toNat n n 1 = .slice (some ⟨g, k, none⟩) (n - k) (n - k) := by
    unfold sliced
    rw [hlo, if_neg (by omega)]
    simp [Addr.add_lit]
  rwa [e1] at h
end
end Go.Cf
namespace Go.Proofs.YtlmhppnbcbadbaaDoor
open Go.RowKit Go.Cf
theorem mul1 (w : World) (n : Nat) (hn : n < 9223372036854775807) : Calls Tryd.prog 44 #[.int .u64 ((1 : Nat) : Int), .int .u64 (n : Int)] w fun e w' => e = .returned (.tuple #[.int .u64 0, .int .u64 (n : Int)]) ∧ Below w.heap.size w w' :=
  (Tryd.bits_Mul 1 n (by decide) (by omega) w).mono fun _ _ ⟨h1, h2⟩ => ⟨by
    rw [h1, Nat.one_mul, Nat.div_eq_of_lt (by omega), Nat.mod_eq_of_lt (by omega)]; rfl, by rw [h2]; exact Below.refl _ _⟩
theorem flat_ints (l : List Int) : l.flatMap intCells = l.map (Value.int .i64) := by
  induction l with
  | nil => rfl
  | cons a l ih => rw [List.flatMap_cons, ih]; rfl
theorem sort_on (w0 w : World) (fr : Reg) (A : Option Addr) (c base : Nat) (l : List Int) (hM : Mem w0 [rowl intCells base 3 1 (.slice A l.length c) l, fr] w) (hl : l.length < 1000000) :
    Calls Tryd.prog 15 #[.slice A l.length c] w fun e w' => ∃ v r' G, e = .returned v ∧ (v = .tuple #[] ∧ r' = rowl intCells base 3 1 (.slice A l.length c) (sortI l) ∧ G = []) ∧ Mem w0 (r' :: fr :: G) w' := by
  have hown := hM.own 0 rfl
  rcases hown.2 with ⟨h1, h0⟩ | ⟨g, cap, cur, hv, hbase, hb, h1, h2, h3, h4⟩
  · have hl0 : l = [] := List.eq_nil_of_length_eq_zero h0
    subst hl0
    cases h1
    exact (Tryd.slices_Sort_int_none none 0 w).mono fun _ _ ⟨h1, h2⟩ => ⟨_, _, _, h1, ⟨rfl, rfl, rfl⟩, by subst h2; rw [show sortI [] = [] from List.eq_nil_of_length_eq_zero (sortI_len [])]; exact hM⟩
  · cases hv
    have hH := holds_of_blockI hb (ss := l) (by rw [← flat_ints]; simpa using h4)
    refine (Tryd.slices_Sort_int g 0 c l w hH (Array.getElem?_eq_some_iff.1 hb).1 (by omega)).mono fun _ w' ⟨h5, n, os, h6⟩ => ⟨_, _, _, h5, ⟨rfl, rfl, rfl⟩, ?_⟩
    have ho := ownsRow_sortedI (n := n) (os := os) (ts := sortI l) (sortI_len l) hbase hb h1 h2 h3
    have hg := grownBy_sortedI (w := w) (g := g) (n := n) (os := os) (sortI l).toArray
    rw [show (sortI l).toArray = (l.mergeSort fun x y => decide (x ≤ y)).toArray from rfl, ← h6] at ho hg
    refine hM.upd (i := 0) rfl ((Chg.of_grownBy hg)) ?_ (fun k hk => ?_)
    · show w'.ownsRow _ _ _ _ (sortI l).length ((sortI l).flatMap intCells)
      rw [flat_ints, sortI_len]; exact ho
    · have hk' : some g = some k := hk
      injection hk' with hk'
      subst hk'
      exact ⟨.inl rfl, Nat.lt_of_lt_of_le (hM.lt _ (List.mem_of_getElem? (i := 0) rfl) g rfl) hg.size⟩
theorem own_cut {α : Type} {f : α → List Value} {l m : List α} {size base g n c : Nat} {e : TypeId} {w : World} (hf : ∀ x, (f x).length = size) (h : w.ownsRow base e size (.slice (some ⟨g, 0, none⟩) n c) (l ++ m).length ((l ++ m).flatMap f)) :
    w.ownsRow base e size (.slice (some ⟨g, 0, none⟩) l.length c) l.length (l.flatMap f) := by
  rcases h.2 with ⟨h1, _⟩ | ⟨g', cap, cur, h1, h2, h3, h4, h5, h6, h7⟩
  · cases h1
  · simp only [Value.slice.injEq, Option.some.injEq, Addr.mk.injEq] at h1
    obtain ⟨⟨rfl, _, _⟩, _, rfl⟩ := h1
    refine ⟨flat_len hf l, .inr ⟨g, c, cur, rfl, h2, h3, by simp at h4; omega, h5, h6, ?_⟩⟩
    have h8 := congrArg (List.take (l.length * size)) h7
    rw [List.take_take, List.flatMap_append, List.take_append_of_le_length (by rw [flat_len hf]; omega), List.take_of_length_le (l := l.flatMap f) (by rw [flat_len hf]; omega)] at h8
    rw [← h8]; congr 1
    rw [Nat.min_eq_left]
    exact Nat.mul_le_mul_right _ (by simp)
theorem compact_on (w0 w : World) (fr : Reg) (A : Option Addr) (c base : Nat) (l : List Int) (n : Nat) (hn : n = l.length) (hM : Mem w0 [rowl intCells base 3 1 (.slice A n c) l, fr] w) (hl : l.length < 1000000) :
    Calls Tryd.prog 16 #[.slice A n c] w fun e w' => ∃ v r' G, e = .returned v ∧ (r' = rowl intCells base 3 1 v (Lib.compact l) ∧ G = []) ∧ Mem w0 (r' :: fr :: G) w' := by
  subst hn
  have hown := hM.own 0 rfl
  rcases hown.2 with ⟨h1, h0⟩ | ⟨g, cap, cur, hv, hbase, hb, h1, h2, h3, h4⟩
  · have hl0 : l = [] := List.eq_nil_of_length_eq_zero h0
    subst hl0
    cases h1
    exact (Tryd.slices_Compact_int_empty none 0 w).mono fun _ _ ⟨h1, h2⟩ => ⟨_, _, _, h1, ⟨rfl, rfl⟩, by subst h2; exact hM⟩
  · cases hv
    have hH := holds_of_blockI hb (ss := l) (by rw [← flat_ints]; simpa using h4)
    refine (Tryd.slices_Compact_int g 0 c l w hH (by omega) h1).mono fun _ w' ⟨h5, n, h6⟩ => ⟨_, _, _, h5, ⟨rfl, rfl⟩, ?_⟩
    have hle := compact_le l
    have ho := ownsRow_sortedI (n := n) (os := #[]) (ts := Lib.compact l ++ List.replicate (l.length - (Lib.compact l).length) 0) (by simp; omega) hbase hb h1 h2 h3
    have hg := grownBy_sortedI (w := w) (g := g) (n := n) (os := #[]) (Lib.compact l ++ List.replicate (l.length - (Lib.compact l).length) 0).toArray
    rw [Sort.grow_empty, ← h6] at ho hg
    refine hM.upd (i := 0) rfl ((Chg.of_grownBy hg)) ?_ (fun k hk => ?_)
    · show w'.ownsRow _ _ _ _ (Lib.compact l).length ((Lib.compact l).flatMap intCells)
      refine own_cut (m := List.replicate (l.length - (Lib.compact l).length) 0) (n := l.length) (fun _ => rfl) ?_
      have hll : (Lib.compact l ++ List.replicate (l.length - (Lib.compact l).length) (0 : Int)).length = l.length := by simp; omega
      rw [flat_ints, hll]; exact ho
    · have hk' : some g = some k := hk
      injection hk' with hk'
      subst hk'
      exact ⟨.inl rfl, Nat.lt_of_lt_of_le (hM.lt _ (List.mem_of_getElem? (i := 0) rfl) g rfl) hg.size⟩
end Go.Proofs.YtlmhppnbcbadbaaDoor
namespace Go.Proofs.YtlmhppnbcbadbaaDoor
open Go.RowKit Go.Cf
set_option maxRecDepth 10000
set_option maxHeartbeats 4000000 in
theorem repeat_any : RepeatOk := by
  intro w A c x n hx hn
  have hmx : maxLen = 9223372036854775807 := rfl
  obtain ⟨ad, rfl, -, hcx⟩ := hx.at_ (k := 0) (by simp)
  refine gcalls Tryd.func37 rfl Tryd.ntmps37 (Nat.le_of_ble_eq_true rfl) ?_
  refine gfrom [(0, .slice _ _ _), (1, .int _ _)] ⟨rfl, rfl, trivial⟩ fun σ => ?_
  refine gseq fun N1 hN1 => ?_
  refine greg ?_
  refine gop (y_assign (v := .slice _ _ _) rfl) rfl rfl rfl ?_
  refine gops_nil ?_
  refine hN1 _ _ ?_
  refine gfrom [(0, .slice _ _ _), (1, .int _ _)] ⟨rfl, rfl, trivial⟩ fun σ => ?_
  refine gseq fun N2 hN2 => ?_
  refine gseq fun N3 hN3 => ?_
  refine greg ?_
  refine gop (y_move (v := .int _ _) rfl) rfl rfl rfl ?_
  refine gop (y_lss rfl rfl) rfl rfl rfl ?_
  refine gops_nil ?_
  refine hN3 _ _ ?_
  refine gfrom [(0, .slice _ _ _), (1, .int _ _), (10, .bool _)] ⟨rfl, rfl, rfl, trivial⟩ fun σ => ?_
  refine gcond (b := _) rfl (fun hc10 => ?_) (fun hc10 => ?_)
  · 
     exfalso; have h9 := of_decide_eq_true hc10; omega
  · 
    replace hc10 := of_decide_eq_false hc10
    refine gskip ?_
    refine hN2 _ _ ?_
    refine gfrom [(0, .slice _ _ _), (1, .int _ _)] ⟨rfl, rfl, trivial⟩ fun σ => ?_
    refine gseq fun N4 hN4 => ?_
    refine greg ?_
    refine gop (y_move (v := .slice _ _ _) rfl) rfl rfl rfl ?_
    refine gop (y_len Tryd.underlying28 rfl) rfl rfl rfl ?_
    refine gop (y_toUint (by kernel_rfl) Tryd.underlying56 rfl (by omega) (by simp)) rfl rfl rfl ?_
    refine gop (y_move (v := .int _ _) rfl) rfl rfl rfl ?_
    refine gop (y_toUint (by kernel_rfl) Tryd.underlying56 rfl (by omega) (by omega)) rfl rfl rfl ?_
    refine gop_pure (e_call (vs := [.int _ _, .int _ _]) Tryd.func44 rfl (by kernel_rfl) rfl) (fun w hM => mul1 w n (by omega)) rfl rfl rfl ?_
    refine gop (y_move (v := .tuple #[.int .u64 0, .int .u64 (n : Int)]) rfl) rfl rfl rfl ?_
    refine gop (y_extract (v := .int _ _) rfl rfl) rfl rfl rfl ?_
    refine gop (y_extract (v := .int _ _) rfl rfl) rfl rfl rfl ?_
    refine gop (y_assign (v := .int _ _) rfl) rfl rfl rfl ?_
    refine gop (y_assign (v := .int _ _) rfl) rfl rfl rfl ?_
    refine gops_nil ?_
    refine hN4 _ _ ?_
    refine gfrom [(0, .slice _ _ _), (5, .int _ _), (6, .int _ _)] ⟨rfl, rfl, rfl, trivial⟩ fun σ => ?_
    refine gseq fun N5 hN5 => ?_
    refine gseq fun N6 hN6 => ?_
    refine greg ?_
    refine gop (y_move (v := .int _ _) rfl) rfl rfl rfl ?_
    refine gop (y_gtr rfl rfl) rfl rfl rfl ?_
    refine gop (y_move (v := .bool _) rfl) rfl rfl rfl ?_
    refine gop_if (want := false) rfl rfl rfl rfl rfl rfl (fun hg23 => ?_) (fun hg23 => ?_)
    · 
      have hg23d := of_decide_eq_false hg23
      refine gop (y_bare (y_move (v := .int _ _) rfl)) rfl rfl rfl ?_
      refine gop_on rfl rfl rfl rfl hg23 ?_
      refine gop (y_bare (y_gtr rfl rfl)) rfl rfl rfl ?_
      refine gop (y_pick_f (v := .bool _) rfl hg23 rfl) rfl rfl rfl ?_
      refine gops_nil ?_
      refine hN6 _ _ ?_
      refine gfrom [(0, .slice _ _ _), (6, .int _ _), (26, .bool _)] ⟨rfl, rfl, rfl, trivial⟩ fun σ => ?_
      refine gcond (b := _) rfl (fun hc26 => ?_) (fun hc26 => ?_)
      · 
         exfalso; have h9 := of_decide_eq_true hc26; omega
      · 
        replace hc26 := of_decide_eq_false hc26
        refine gskip ?_
        refine hN5 _ _ ?_
        refine gfrom [(0, .slice _ _ _), (6, .int _ _)] ⟨rfl, rfl, trivial⟩ fun σ => ?_
        refine gseq fun N7 hN7 => ?_
        refine greg ?_
        refine gop (y_move (v := .int _ _) rfl) rfl rfl rfl ?_
        refine gop (y_ofUint (by kernel_rfl) Tryd.underlying3 rfl (by omega) (by omega)) rfl rfl rfl ?_
        refine gop_make (f := intCells) (bytes := 8) (z := .int .i64 0) ((0 : Int)) Tryd.underlying28 (by kernel_rfl) rfl rfl rfl (k := n) rfl rfl (by omega) (by simp [maxLen]; omega) rfl (fun b30 hb30 => ?_)
        refine gop (y_assign (v := .slice (some _) _ _) rfl) rfl rfl rfl ?_
        refine gops_nil ?_
        refine hN7 _ _ ?_
        refine gT [rowl _ _ _ _ _ _] rfl ?_
        refine gfrom [(0, .slice _ _ _), (7, .slice (some _) _ _)] ⟨rfl, rfl, trivial⟩ fun σ => ?_
        refine gseq fun N8 hN8 => ?_
        refine greg ?_
        refine gop (y_move (v := .slice (some _) _ _) rfl) rfl rfl rfl ?_
        refine gop (y_move (v := .slice _ _ _) rfl) rfl rfl rfl ?_
        have hmin : Nat.min 1 n ≤ n := Nat.min_le_right _ _
        have hmin1 : Nat.min 1 n ≤ 1 := Nat.min_le_left _ _
        refine gop_copy_row 0 (f := intCells) (l' := List.replicate (Nat.min 1 n) x ++ List.replicate (n - Nat.min 1 n) 0) (xs := (List.replicate (Nat.min 1 n) x).flatMap intCells) (ad := ad) (off := 0) Tryd.underlying28 Tryd.sizeOf3 rfl rfl rfl (fun w hM j u hu => ?hs) (by rw [flat_len (size := 1) (fun _ => rfl)]; simp) (flat_one wide_int _) rfl (by simp) (by simp; omega) (by simp; omega) (setCells_repl0 x 0 _ n hmin) rfl rfl ?_
        case hs =>
          have hj := (List.getElem?_eq_some_iff.1 hu).1
          rw [flat_len (size := 1) (fun _ => rfl)] at hj
          simp at hj
          have hj0 : j = 0 := by omega
          subst hj0
          obtain ⟨_, k', z, j', hk', hj', _⟩ := flat_inv (f := intCells) (size := 1) (fun _ => rfl) _ _ _ hu
          have h2 : z = x := List.eq_of_mem_replicate (List.mem_of_getElem? hk')
          subst h2
          rw [List.mem_singleton.1 (List.mem_of_getElem? hj')]
          have h9 := hcx 0 _ rfl
          rw [hM.low.cell (World.block_lt_of_cell? _ _ (by simpa using h9))]
          simpa using h9
        refine gop (y_assign (v := .int _ _) rfl) rfl rfl rfl ?_
        refine gops_nil ?_
        refine hN8 _ _ ?_
        refine gT [rowl _ _ _ _ _ _] rfl ?_
        refine gfrom [(7, .slice (some _) _ _), (8, .int _ _)] ⟨rfl, rfl, trivial⟩ fun σ => ?_
        refine gseq fun N9 hN9 => ?_
        refine gblock ?_
        refine gfrom2 [(8, .int _ _)] [(7, .slice (some _) _ _)] ⟨rfl, trivial⟩ ⟨rfl, trivial⟩ fun σ => ?_
        refine gloop2 (G := Nat) (fun k => k ≤ n ∧ (0 < n → 0 < k)) (fun k => n - k) (fun k => [(8, .int .i64 (k : Int))]) (fun k => [(0, rowl intCells w.heap.size 3 1 (.slice (some ⟨b30, 0, none⟩) n n) (List.replicate k x ++ List.replicate (n - k) 0))]) (Nat.min 1 n) ?h0 ⟨rfl, trivial⟩ ⟨rfl, trivial⟩ rfl ?round
        case h0 => exact ⟨hmin, fun h => by show 0 < min 1 n; omega⟩
        case round =>
          intro k hφ σ
          obtain ⟨hk, hk0⟩ := hφ
          refine gT [rowl _ _ _ _ _ _] rfl ?_
          refine gseq fun N10 hN10 => ?_
          refine gseq fun N11 hN11 => ?_
          refine greg ?_
          refine gop (y_move (v := .int _ _) rfl) rfl rfl rfl ?_
          refine gop (y_move (v := .slice (some _) _ _) rfl) rfl rfl rfl ?_
          refine gop (y_len Tryd.underlying28 rfl) rfl rfl rfl ?_
          refine gop (y_lss rfl rfl) rfl rfl rfl ?_
          refine gops_nil ?_
          refine hN11 _ _ ?_
          refine gfrom [(7, .slice (some _) _ _), (8, .int _ _), (37, .bool _)] ⟨rfl, rfl, rfl, trivial⟩ fun σ => ?_
          refine gcond (b := _) rfl (fun hc37 => ?_) (fun hc37 => ?_)
          · 
            replace hc37 := of_decide_eq_true hc37
            refine gskip ?_
            refine hN10 _ _ ?_
            refine gfrom [(7, .slice (some _) _ _), (8, .int _ _)] ⟨rfl, rfl, trivial⟩ fun σ => ?_
            refine gblock ?_
            refine greg_e0 [7] (by kernel_rfl) ?_
            refine ge_take 1 (TK := [rowl _ _ _ _ _ _]) rfl (by kernel_rfl) (by kernel_rfl) (by kernel_rfl) #[true, false, true, false, true, true, true, false, false, false] (by kernel_rfl) rfl (y_move (v := .slice (some _) _ _) rfl) rfl rfl rfl (weak_refl) (listed' := #[false, true, false, false, false, false, false, false, false, false]) rfl ?_
            refine ge_take 2 (TK := [rowl _ _ _ _ _ _]) rfl (by kernel_rfl) (by kernel_rfl) (by kernel_rfl) #[true, true, false, false, true, true, true, false, false, false] (by kernel_rfl) rfl (y_move (v := .int _ _) rfl) rfl rfl rfl (weak_refl) (listed' := #[false, true, true, false, false, false, false, false, false, false]) rfl ?_
            refine ge_take 3 (TK := [rowl _ _ _ _ _ _]) rfl (by kernel_rfl) (by kernel_rfl) (by kernel_rfl) #[true, true, true, false, true, true, true, false, false, false] (by kernel_rfl) rfl (y_from (k := k) Tryd.underlying28 Tryd.sizeOf3 rfl rfl rfl (by omega) (by omega)) rfl rfl rfl (weak_refl) (listed' := #[false, true, true, true, false, false, false, false, false, false]) rfl ?_
            refine ge_take 4 (TK := [rowl _ _ _ _ _ _]) rfl (by kernel_rfl) (by kernel_rfl) (by kernel_rfl) #[true, true, true, true, false, true, false, false, false, false] (by kernel_rfl) rfl (y_move (v := .slice (some _) _ _) rfl) rfl rfl rfl (weak_refl) (listed' := #[false, true, true, true, true, false, false, false, false, false]) rfl ?_
            refine ge_take 5 (TK := [rowl _ _ _ _ _ _]) rfl (by kernel_rfl) (by kernel_rfl) (by kernel_rfl) #[true, true, true, true, true, false, false, false, false, false] (by kernel_rfl) rfl (y_move (v := .int _ _) rfl) rfl rfl rfl (weak_refl) (listed' := #[false, true, true, true, true, true, false, false, false, false]) rfl ?_
            refine ge_take 6 (TK := [rowl _ _ _ _ _ _]) rfl (by kernel_rfl) (by kernel_rfl) (by kernel_rfl) #[true, true, true, true, true, true, false, false, false, false] (by kernel_rfl) rfl (y_trunc (m := k) Tryd.underlying28 Tryd.sizeOf3 rfl rfl (by omega) (by omega) rfl) rfl rfl rfl (weak_refl) (listed' := #[false, true, true, true, true, true, true, false, false, false]) rfl ?_
            refine ge_takep 0 (TK := [rowl _ _ _ _ _ _]) rfl (by kernel_rfl) (by kernel_rfl) (by kernel_rfl) rfl rfl (y_move (v := .int _ _) rfl) rfl rfl rfl (weak_refl) (listed' := #[true, true, true, true, true, true, true, false, false, false]) rfl ?_
            refine ge_one 7 (k' := 1) (listed' := #[true, true, true, true, true, true, true, true, false, false]) (by kernel_rfl) rfl rfl rfl ?_
            refine gop_copy_row 0 (f := intCells) (l' := List.replicate (k + Nat.min k (n - k)) x ++ List.replicate (n - (k + Nat.min k (n - k))) 0) (xs := (List.replicate (Nat.min k (n - k)) x).flatMap intCells) (off := k) Tryd.underlying28 Tryd.sizeOf3 rfl rfl rfl (repl_cells 0 rfl (Nat.min_le_left _ _)) (by rw [flat_len (size := 1) (fun _ => rfl)]; simp) (flat_one wide_int _) rfl (by simp; omega) (by have h9 : Nat.min k (n - k) ≤ n - k := Nat.min_le_right _ _; simp; omega) (by have h9 : Nat.min k (n - k) ≤ n - k := Nat.min_le_right _ _; simp; omega) (setCells_repl x 0 k _ n (by have h9 : Nat.min k (n - k) ≤ n - k := Nat.min_le_right _ _; omega)) rfl rfl ?_
            refine gops_nil ?_
            refine ge_fin (TK := []) rfl (weak_nil) ?_
            refine ge_take 8 (TK := []) rfl (by kernel_rfl) (by kernel_rfl) (by kernel_rfl) #[true, true, true, true, true, true, true, true, false, false] (by kernel_rfl) rfl (y_add rfl rfl ⟨by have h9 : Nat.min k (n - k) ≤ n - k := Nat.min_le_right _ _; omega, by have h9 : Nat.min k (n - k) ≤ n - k := Nat.min_le_right _ _; omega⟩) rfl rfl rfl (weak_nil) (listed' := #[true, true, true, true, true, true, true, true, true, false]) rfl ?_
            refine ge_take 9 (TK := []) rfl (by kernel_rfl) (by kernel_rfl) (by kernel_rfl) #[true, true, true, true, true, true, true, true, true, false] (by kernel_rfl) rfl (y_assign (v := .int _ _) rfl) rfl rfl rfl (weak_nil) (listed' := #[true, true, true, true, true, true, true, true, true, true]) rfl ?_
            refine ge_done (by kernel_rfl) ?_
            refine gnext2 (k + Nat.min k (n - k)) (by have h9 := hk0 (by omega); have h8 : Nat.min k (n - k) = min k (n - k) := rfl; omega) (by have h8 : Nat.min k (n - k) = min k (n - k) := rfl; exact ⟨by omega, fun _ => by omega⟩) ⟨rfl, trivial⟩ ⟨rfl, trivial⟩ ⟨_, rfl⟩
          · 
            replace hc37 := of_decide_eq_false hc37
            refine gexit ?_
            refine hN9 _ _ ?_
            refine gfrom [(7, .slice (some _) _ _)] ⟨rfl, trivial⟩ fun σ => ?_
            refine gseq fun N12 hN12 => ?_
            refine greg ?_
            refine gop (y_move (v := .slice (some _) _ _) rfl) rfl rfl rfl ?_
            refine gop (y_assign (v := .slice (some _) _ _) rfl) rfl rfl rfl ?_
            refine gops_nil ?_
            refine hN12 _ _ ?_
            refine gfrom [(4, .slice (some _) _ _)] ⟨rfl, trivial⟩ fun σ => ?_
            refine gret fun w1 hM => ?_
            refine ⟨_, res1 rfl (rt (v := .slice (some _) _ _) rfl), ?_⟩
            have hkn : k = n := by omega
            have e9 : List.replicate k x ++ List.replicate (n - k) 0 = List.replicate n x := by rw [hkn]; simp
            rw [e9] at hM
            exact ⟨_, _, rfl, rfl, hM⟩
    · 
       exfalso; have h9 := of_decide_eq_true hg23; omega
end Go.Proofs.YtlmhppnbcbadbaaDoor
namespace Go.Cf
open Go.RowKit
theorem DepsR.base {w0 w : World} {T : List Reg} {lo : Nat} {A : Option Addr} {d : List LC} (h : DepsR w0 lo A d) (hM : Mem w0 T w) : DepsR w lo A d := ⟨h.rd.base hM, fun a ha => ⟨(h.each a ha).rd.base hM⟩⟩
def idxP {α : Type} (p : α → Bool) (l : List α) : Int := if l.any p = true then ((l.findIdx p : Nat) : Int) else -1
theorem idxP_hit {α : Type} {p : α → Bool} {l : List α} {k : Nat} (hk : k < l.length) (h : ∀ j (hj : j < l.length), j < k → p l[j] = false) (hp : p l[k] = true) : idxP p l = (k : Int) := by
  have h1 : l.any p = true := List.any_eq_true.2 ⟨_, List.getElem_mem hk, hp⟩
  rw [idxP, if_pos h1, (List.findIdx_eq hk).2 ⟨hp, fun j hj => h j (by omega) hj⟩]
theorem idxP_none {α : Type} {p : α → Bool} {l : List α} (h : ∀ j (hj : j < l.length), p l[j] = false) : idxP p l = -1 := by
  have h1 : l.any p = false := by
    rw [List.any_eq_false]
    intro x hx
    obtain ⟨j, hj, rfl⟩ := List.getElem_of_mem hx
    simp [h j hj]
  rw [idxP, h1, if_neg (by simp)]
theorem idxP_any {α : Type} (p : α → Bool) (l : List α) : decide ((0 : Int) ≤ idxP p l) = l.any p := by
  unfold idxP
  cases l.any p with
  | true => rw [if_pos rfl]; exact decide_eq_true (by omega)
  | false => rw [if_neg (by simp)]; rfl
def hasI (l : List Int) (x : Int) : Bool := l.any (fun y => decide (x = y))
def doneL (n m : Nat) : List Bool := List.replicate m true ++ List.replicate (n - m) false
theorem doneL_len {n m : Nat} (h : m ≤ n) : (doneL n m).length = n := by simp [doneL]; omega
theorem doneL_get {n m k : Nat} (h : m ≤ n) (hk : k < n) : (doneL n m)[k]? = some (decide (k < m)) := by
  unfold doneL
  by_cases hkm : k < m
  · rw [List.getElem?_append_left (by simpa using hkm), List.getElem?_replicate, if_pos hkm, decide_eq_true hkm]
  · rw [List.getElem?_append_right (by simp; omega), List.getElem?_replicate, if_pos (by simp; omega), decide_eq_false hkm]
theorem doneL_set {n m : Nat} (h : m < n) : (doneL n m).set m true = doneL n (m + 1) := by
  unfold doneL
  have e : n - m = (n - (m + 1)) + 1 := by omega
  rw [List.set_append_right _ _ (by simp), e]
  simp only [List.length_replicate, Nat.sub_self, List.replicate_succ, List.set_cons_zero]
  rw [List.append_cons]
  congr 1
  rw [← List.replicate_succ', List.replicate_succ]
theorem doneL_zero (n : Nat) : List.replicate n false = doneL n 0 := by simp [doneL]
def rangeI : Nat → List Int
  | 0 => []
  | k + 1 => rangeI k ++ [(k : Int)]
theorem rangeI_len : ∀ k, (rangeI k).length = k
  | 0 => rfl
  | k + 1 => by rw [rangeI, List.length_append, rangeI_len k]; rfl
theorem rangeI_get : ∀ (n k : Nat), k < n → (rangeI n)[k]? = some (k : Int)
  | 0, k, h => by omega
  | n + 1, k, h => by
    rw [rangeI]
    rcases Nat.lt_or_ge k n with h1 | h1
    · rw [List.getElem?_append_left (by rw [rangeI_len]; exact h1)]; exact rangeI_get n k h1
    · obtain rfl : k = n := by omega
      rw [List.getElem?_append_right (by rw [rangeI_len]; exact Nat.le_refl _), rangeI_len, Nat.sub_self]; rfl
theorem any_lt {l : List Int} {m k : Nat} (h : ∀ n ∈ l, 0 ≤ n ∧ n < (k : Int)) (hk : k ≤ m) : l.any (fun z => !decide (z < (m : Int))) = false := by
  rw [List.any_eq_false]
  intro z hz
  have := h z hz
  rw [decide_eq_true (show z < (m : Int) by omega)]; simp
def levTo' (l : List Int) (out : List Int) (j : Nat) : Int := levN (l.take j) out
theorem levTo'_succ {l out : List Int} {j : Nat} (h : j < l.length) : levTo' l out (j + 1) = max (levTo' l out j) (out[l[j].toNat]?.getD 0 + 1) := by
  unfold levTo' levN
  rw [List.take_succ_eq_append_getElem h, List.foldl_append]; rfl
theorem levN_bd {out : List Int} {b : Int} (hb : 0 ≤ b) (ho : ∀ x ∈ out, x ≤ b) : ∀ (l : List Int) (m : Int), m ≤ b + 1 → l.foldl (fun m n => max m (out[n.toNat]?.getD 0 + 1)) m ≤ b + 1
  | [], m, hm => hm
  | n :: l, m, hm => by
    rw [List.foldl_cons]
    apply levN_bd hb ho l
    have h0 : out[n.toNat]?.getD 0 ≤ b := by
      cases h : out[n.toNat]? with
      | none => exact hb
      | some x => exact ho x (List.mem_of_getElem? h)
    omega
theorem levTo_bd (d : List (List Int)) : ∀ k, ∀ x ∈ levTo d k, x ≤ k
  | 0, x, h => by cases h
  | k + 1, x, h => by
    rw [levTo] at h
    rcases List.mem_append.1 h with h | h
    · have := levTo_bd d k x h; omega
    · rw [List.mem_singleton.1 h]
      have := levN_bd (b := (k : Int)) (by omega) (levTo_bd d k) (d[k]?.getD []) 0 (by omega)
      unfold levN; omega
theorem levTo_get_bd (d : List (List Int)) (k i : Nat) : -1 ≤ (levTo d k)[i]?.getD 0 ∧ (levTo d k)[i]?.getD 0 ≤ k := by
  cases h : (levTo d k)[i]? with
  | none => simp
  | some x =>
    have h1 := levTo_bd d k x (List.mem_of_getElem? h)
    have h2 := lev_nonneg d k x (List.mem_of_getElem? h)
    simp; omega
def levL (d : List (List Int)) (n k : Nat) (x : Int) : List Int := levTo d k ++ x :: List.replicate (n - (k + 1)) 0
def levZ (d : List (List Int)) (n k : Nat) : List Int := levTo d k ++ List.replicate (n - k) 0
theorem levZ_zero (d : List (List Int)) (n : Nat) : List.replicate n 0 = levZ d n 0 := by simp [levZ, levTo]
theorem levZ_open {d : List (List Int)} {n k : Nat} (h : k < n) : levZ d n k = levL d n k 0 := by
  have e : n - k = (n - (k + 1)) + 1 := by omega
  rw [levZ, levL, e, List.replicate_succ]
theorem levL_close {d : List (List Int)} {n k : Nat} : levL d n k (levN (d[k]?.getD []) (levTo d k)) = levZ d n (k + 1) := by
  rw [levZ, levL, levTo, List.append_assoc]; rfl
theorem levL_len {d : List (List Int)} {n k : Nat} {x : Int} (h : k < n) : (levL d n k x).length = n := by
  simp [levL, levTo_len]; omega
theorem levL_own {d : List (List Int)} {n k : Nat} {x : Int} : (levL d n k x)[k]? = some x := by
  rw [levL, List.getElem?_append_right (by rw [levTo_len]; exact Nat.le_refl _), levTo_len, Nat.sub_self]; rfl
theorem levL_low {d : List (List Int)} {n k j : Nat} {x : Int} (h : j < k) : (levL d n k x)[j]? = some ((levTo d k)[j]?.getD 0) := by
  rw [levL, List.getElem?_append_left (by rw [levTo_len]; exact h), List.getElem?_eq_getElem (by rw [levTo_len]; exact h)]; rfl
theorem levL_set {d : List (List Int)} {n k : Nat} {x y : Int} : (levL d n k x).set k y = levL d n k y := by
  rw [levL, List.set_append_right _ _ (by rw [levTo_len]; exact Nat.le_refl _), levTo_len, Nat.sub_self]; rfl
theorem levL_end {d : List LC} {n k j : Nat} (h : k < d.length) (hj : d[k].l.length ≤ j) : levL (ll d) n k (levTo' d[k].l (levTo (ll d) k) j) = levZ (ll d) n (k + 1) := by
  rw [← levL_close, levTo', List.take_of_length_le hj]
  congr 2
  simp [ll, h]
theorem levZ_all {d : List (List Int)} {n : Nat} : levZ d n n = levTo d n := by simp [levZ]
end Go.Cf
namespace Go.Proofs.YtlmhppnbcbadbaaDoor
open Go.RowKit Go.Cf
set_option maxRecDepth 10000
theorem eg25 (op : BinOp) (x y : Operand) (xs ys : Array Value) (w : World) : (eqGuard op 25 x y (.agg xs) (.agg ys)).run Tryd.prog w = .ok () w := run_eqGuard_agg w op 25 x y xs ys (by kernel_rfl)
theorem ne25 (a0 b0 : Int) (a1 b1 : Int) (w : World) : (binOp .neq 25 (.agg #[.int .i64 a0, .int .i64 a1]) (.agg #[.int .i64 b0, .int .i64 b1])).run Tryd.prog w = .ok (.bool (!(decide (a0 = b0) && decide (a1 = b1)))) w := by
  simp [run_neq_struct, run_equalIn_agg, Tryd.underlying25, Tryd.stoodInHeld25, Program.fieldsOf, go_sem]
  (repeat' split) <;> simp_all
set_option maxHeartbeats 8000000 in
theorem dgDistances_any (w : World) (A : Option Addr) (c : Nat) (d : List LC) (hd : DepsR w 0 A d) (hlc : d.length ≤ c) (hcm : c ≤ maxLen) (hD : Down (ll d)) (to : Nat) :
    Calls Tryd.prog 24 #[.slice A d.length c, .int .i64 (to : Int)] w fun e w' => ∃ v T' out, e = .returned v ∧ DI d.length to out ∧ (∃ lo, w.heap.size ≤ lo ∧ T' = [rowl intCells lo 3 1 v out]) ∧ Mem w T' w' := by
  have hmx : maxLen = 9223372036854775807 := rfl
  have hlen : d.length ≤ 24 := by have h9 := hD.len; simpa using h9
  refine gcalls Tryd.func24 rfl Tryd.ntmps24 (Nat.le_of_ble_eq_true rfl) ?_
  refine gfrom [(0, .slice _ _ _), (1, .int _ _)] ⟨rfl, rfl, trivial⟩ fun σ => ?_
  refine gseq fun N1 hN1 => ?_
  refine greg ?_
  refine gop (y_assign (v := .slice _ _ _) rfl) rfl rfl rfl ?_
  refine gops_nil ?_
  refine hN1 _ _ ?_
  refine gfrom [(0, .slice _ _ _), (1, .int _ _)] ⟨rfl, rfl, trivial⟩ fun σ => ?_
  refine gseq fun N2 hN2 => ?_
  refine greg ?_
  refine gop_lit (vs := [.int _ _]) (cells := #[_]) Tryd.underlying28 Tryd.sizeOf3 Tryd.zeroValue3 rfl (by decide) (by decide) rfl rfl rfl rfl (fun b12 hb12 => ?_)
  refine gop (y_move (v := .slice _ _ _) rfl) rfl rfl rfl ?_
  refine gop (y_len Tryd.underlying33 rfl) rfl rfl rfl ?_
  refine gop_got (fun v T' => ∃ lo, w.heap.size ≤ lo ∧ T' = [rowl intCells lo 3 1 v (List.replicate d.length 1000)]) (e_call (vs := [.slice (some _) _ _, .int _ _]) Tryd.func37 rfl (by kernel_rfl) rfl) (fun w hM => (repeat_any w _ _ 1000 d.length (Rdl.mono (Rdl.of_box 0 (f := intCells) (fun _ => rfl) hM rfl rfl) (Nat.zero_le _)) (by omega)).mono fun _ _ ⟨v, T1, h1, h2, h3⟩ => ⟨v, T1, h1, ⟨_, hM.low.size, h2⟩, h3⟩) rfl rfl rfl ?_
  rintro v15 _ ⟨lo15, hlo15, rfl⟩
  refine gops_fact (fun w hM => row_form (hM.ok _ (List.mem_of_getElem? (i := 1) rfl))) ?_
  rintro ⟨A15, c15, hv15, hc15, hm15, hn15⟩
  rw [List.length_replicate] at hv15 hc15
  subst hv15
  refine gops_fact (Φ := 0 < d.length → ∃ g, A15 = some ⟨g, 0, none⟩) (fun w hM h9 => row_g (hM.ok _ (List.mem_of_getElem? (i := 1) rfl)) (by simpa using h9)) ?_
  intro hg15
  refine gop (y_assign (v := .slice A15 _ c15) rfl) rfl rfl rfl ?_
  refine gops_nil ?_
  refine hN2 _ _ ?_
  refine gT [box b12 _, rowl _ _ _ _ _ _] rfl ?_
  refine gfrom [(0, .slice _ _ _), (1, .int _ _), (5, .slice A15 _ c15)] ⟨rfl, rfl, rfl, trivial⟩ fun σ => ?_
  refine gseq fun N3 hN3 => ?_
  refine gseq fun N4 hN4 => ?_
  refine greg ?_
  refine gop (y_assign (v := .bool _) rfl) rfl rfl rfl ?_
  refine gops_nil ?_
  refine hN4 _ _ ?_
  refine gfrom [(0, .slice _ _ _), (1, .int _ _), (5, .slice A15 _ c15), (6, .bool _)] ⟨rfl, rfl, rfl, rfl, trivial⟩ fun σ => ?_
  refine gblock ?_
  refine gfrom2 [(6, .bool _)] [(0, .slice _ _ _), (1, .int _ _), (5, .slice A15 _ c15)] ⟨rfl, trivial⟩ ⟨rfl, rfl, rfl, trivial⟩ fun σ => ?_
  refine gloop2 (G := Bool × List Int) (fun (b, out) => DI d.length to out) (fun (b, out) => 2 * sumN out + (if b then 1 else 0)) (fun (b, out) => [(6, .bool b)]) (fun (b, out) => [(1, rowl intCells lo15 3 1 (.slice A15 d.length c15) (out))]) ((true, List.replicate d.length 1000)) ?h0 ⟨rfl, trivial⟩ ⟨rfl, rfl, rfl, trivial⟩ rfl ?round
  case h0 => exact di_start _ _
  case round =>
    rintro ⟨b, out⟩ hdi0 σ
    replace hdi0 : DI d.length to out := hdi0
    refine gT [box b12 _, rowl _ _ _ _ _ _] rfl ?_
    refine gseq fun N5 hN5 => ?_
    refine gseq fun N6 hN6 => ?_
    refine greg ?_
    refine gop (y_move (v := .bool _) rfl) rfl rfl rfl ?_
    refine gops_nil ?_
    refine hN6 _ _ ?_
    refine gfrom [(0, .slice _ _ _), (1, .int _ _), (5, .slice A15 _ c15), (16, .bool _)] ⟨rfl, rfl, rfl, rfl, trivial⟩ fun σ => ?_
    refine gcond (b := _) rfl (fun hc16 => ?_) (fun hc16 => ?_)
    · 
      refine gskip ?_
      refine hN5 _ _ ?_
      refine gfrom [(0, .slice _ _ _), (1, .int _ _), (5, .slice A15 _ c15)] ⟨rfl, rfl, rfl, trivial⟩ fun σ => ?_
      refine gblock ?_
      refine gseq fun N7 hN7 => ?_
      refine greg ?_
      refine gop (y_assign (v := .bool _) rfl) rfl rfl rfl ?_
      refine gops_nil ?_
      refine hN7 _ _ ?_
      refine gfrom [(0, .slice _ _ _), (1, .int _ _), (5, .slice A15 _ c15), (6, .bool _)] ⟨rfl, rfl, rfl, rfl, trivial⟩ fun σ => ?_
      refine gseq fun N8 hN8 => ?_
      refine greg ?_
      refine gop (y_move (v := .slice _ _ _) rfl) rfl rfl rfl ?_
      refine gop (y_len Tryd.underlying33 rfl) rfl rfl rfl ?_
      refine gop (y_move (v := .int _ _) rfl) rfl rfl rfl ?_
      refine gops_nil ?_
      refine hN8 _ _ ?_
      refine gfrom [(0, .slice _ _ _), (1, .int _ _), (5, .slice A15 _ c15), (6, .bool _), (17, .slice _ _ _), (18, .int _ _), (19, .int _ _)] ⟨rfl, rfl, rfl, rfl, rfl, rfl, rfl, trivial⟩ fun σ => ?_
      refine gblock ?_
      refine gfrom2 [(6, .bool _), (19, .int _ _)] [(0, .slice _ _ _), (1, .int _ _), (5, .slice A15 _ c15), (17, .slice _ _ _), (18, .int _ _)] ⟨rfl, rfl, trivial⟩ ⟨rfl, rfl, rfl, rfl, rfl, trivial⟩ fun σ => ?_
      refine gloop2 (G := Nat × Bool × List Int) (fun (k, b2, out2) => k ≤ d.length ∧ DI d.length to out2 ∧ Less2 b2 out2 out) (fun (k, b2, out2) => d.length - k) (fun (k, b2, out2) => [(6, .bool b2), (19, .int .i64 (k : Int))]) (fun (k, b2, out2) => [(1, rowl intCells lo15 3 1 (.slice A15 d.length c15) (out2))]) ((0, false, out)) ?h0 ⟨rfl, rfl, trivial⟩ ⟨rfl, rfl, rfl, rfl, rfl, trivial⟩ rfl ?round
      case h0 => exact ⟨Nat.zero_le _, hdi0, less2_refl _⟩
      case round =>
        rintro ⟨k, b2, out2⟩ hφ σ
        obtain ⟨hk, hdi2, hls2⟩ : k ≤ d.length ∧ DI d.length to out2 ∧ Less2 b2 out2 out := hφ
        refine gT [box b12 _, rowl _ _ _ _ _ _] rfl ?_
        refine gseq fun N9 hN9 => ?_
        refine greg ?_
        refine gop (y_lss rfl rfl) rfl rfl rfl ?_
        refine gops_nil ?_
        refine hN9 _ _ ?_
        refine gfrom [(0, .slice _ _ _), (1, .int _ _), (5, .slice A15 _ c15), (6, .bool _), (17, .slice _ _ _), (18, .int _ _), (19, .int _ _), (20, .bool _)] ⟨rfl, rfl, rfl, rfl, rfl, rfl, rfl, rfl, trivial⟩ fun σ => ?_
        refine gseq fun N10 hN10 => ?_
        refine gcond (b := _) rfl (fun hc20 => ?_) (fun hc20 => ?_)
        · 
          replace hc20 := of_decide_eq_true hc20
          have hk1 : k < d.length := by omega
          obtain ⟨ad, rfl, -, hca⟩ := hd.rd.at_ hk1
          obtain ⟨hR⟩ := hd.each _ (List.getElem_mem hk1)
          obtain ⟨hlt, hinc⟩ := down_at hD hk1
          have hdl : d[k].l.length ≤ 24 := by
            rcases inc_len hinc (b := (k : Int)) hlt with h9 | h9
            · omega
            · rw [h9]; exact Nat.zero_le _
          obtain ⟨g15, rfl⟩ := hg15 (by omega)
          refine gskip ?_
          refine hN10 _ _ ?_
          refine gfrom [(0, .slice _ _ _), (1, .int _ _), (5, .slice (some ⟨g15, 0, none⟩) _ c15), (6, .bool _), (17, .slice _ _ _), (18, .int _ _), (19, .int _ _)] ⟨rfl, rfl, rfl, rfl, rfl, rfl, rfl, trivial⟩ fun σ => ?_
          refine gseq fun N11 hN11 => ?_
          refine gblock ?_
          refine gseq fun N12 hN12 => ?_
          refine greg ?_
          refine gop (y_move (v := .int _ _) rfl) rfl rfl rfl ?_
          refine gop (y_indexAddr (m := k) Tryd.underlying33 Tryd.sizeOf28 rfl rfl (by omega) (by omega) (by omega)) rfl rfl rfl ?_
          refine gop (y_load Tryd.isAgg28 rfl (cell_base (hca 0 _ rfl))) rfl rfl rfl ?_
          refine gop (y_assign (v := .int _ _) rfl) rfl rfl rfl ?_
          refine gop (y_assign (v := .slice _ _ _) rfl) rfl rfl rfl ?_
          refine gops_nil ?_
          refine hN12 _ _ ?_
          refine gfrom [(0, .slice _ _ _), (1, .int _ _), (5, .slice (some ⟨g15, 0, none⟩) _ c15), (6, .bool _), (7, .int _ _), (8, .slice _ _ _), (17, .slice _ _ _), (18, .int _ _), (19, .int _ _)] ⟨rfl, rfl, rfl, rfl, rfl, rfl, rfl, rfl, rfl, trivial⟩ fun σ => ?_
          refine gseq fun N13 hN13 => ?_
          refine greg ?_
          refine gop (y_move (v := .slice _ _ _) rfl) rfl rfl rfl ?_
          refine gop (y_len Tryd.underlying28 rfl) rfl rfl rfl ?_
          refine gop (y_move (v := .int _ _) rfl) rfl rfl rfl ?_
          refine gops_nil ?_
          refine hN13 _ _ ?_
          refine gfrom [(0, .slice _ _ _), (1, .int _ _), (5, .slice (some ⟨g15, 0, none⟩) _ c15), (6, .bool _), (7, .int _ _), (17, .slice _ _ _), (18, .int _ _), (19, .int _ _), (24, .slice _ _ _), (25, .int _ _), (26, .int _ _)] ⟨rfl, rfl, rfl, rfl, rfl, rfl, rfl, rfl, rfl, rfl, rfl, trivial⟩ fun σ => ?_
          refine gblock ?_
          refine gfrom2 [(6, .bool _), (26, .int _ _)] [(0, .slice _ _ _), (1, .int _ _), (5, .slice (some ⟨g15, 0, none⟩) _ c15), (7, .int _ _), (17, .slice _ _ _), (18, .int _ _), (19, .int _ _), (24, .slice _ _ _), (25, .int _ _)] ⟨rfl, rfl, trivial⟩ ⟨rfl, rfl, rfl, rfl, rfl, rfl, rfl, rfl, rfl, trivial⟩ fun σ => ?_
          refine gloop2 (G := Nat × Bool × List Int) (fun (j, b3, out3) => j ≤ d[k].l.length ∧ DI d.length to out3 ∧ Less2 b3 out3 out) (fun (j, b3, out3) => d[k].l.length - j) (fun (j, b3, out3) => [(6, .bool b3), (26, .int .i64 (j : Int))]) (fun (j, b3, out3) => [(1, rowl intCells lo15 3 1 (.slice (some ⟨g15, 0, none⟩) d.length c15) (out3))]) ((0, b2, out2)) ?h0 ⟨rfl, rfl, trivial⟩ ⟨rfl, rfl, rfl, rfl, rfl, rfl, rfl, rfl, rfl, trivial⟩ rfl ?round
          case h0 => exact ⟨Nat.zero_le _, hdi2, hls2⟩
          case round =>
            rintro ⟨j, b3, out3⟩ hφ σ
            obtain ⟨hj, hdi, hls⟩ : j ≤ d[k].l.length ∧ DI d.length to out3 ∧ Less2 b3 out3 out := hφ
            refine gT [box b12 _, rowl _ _ _ _ _ _] rfl ?_
            refine gseq fun N14 hN14 => ?_
            refine greg ?_
            refine gop (y_lss rfl rfl) rfl rfl rfl ?_
            refine gops_nil ?_
            refine hN14 _ _ ?_
            refine gfrom [(0, .slice _ _ _), (1, .int _ _), (5, .slice (some ⟨g15, 0, none⟩) _ c15), (6, .bool _), (7, .int _ _), (17, .slice _ _ _), (18, .int _ _), (19, .int _ _), (24, .slice _ _ _), (25, .int _ _), (26, .int _ _), (27, .bool _)] ⟨rfl, rfl, rfl, rfl, rfl, rfl, rfl, rfl, rfl, rfl, rfl, rfl, trivial⟩ fun σ => ?_
            refine gseq fun N15 hN15 => ?_
            refine gcond (b := _) rfl (fun hc27 => ?_) (fun hc27 => ?_)
            · 
              replace hc27 := of_decide_eq_true hc27
              have hj1 : j < d[k].l.length := by omega
              obtain ⟨ad2, hq2, -, hcb⟩ := (hR.base (T := []) (Mem.start w)).at_ hj1
              have hn0 : 0 ≤ d[k].l[j] ∧ d[k].l[j] < (k : Int) := hlt _ (List.getElem_mem hj1)
              have hol := hdi.len
              have hnl : d[k].l[j].toNat < out3.length := by omega
              have hkl : k < out3.length := by omega
              have hbn := hdi.bd _ (List.getElem_mem hnl)
              have hbk := hdi.bd _ (List.getElem_mem hkl)
              refine gskip ?_
              refine hN15 _ _ ?_
              refine gfrom [(0, .slice _ _ _), (1, .int _ _), (5, .slice (some ⟨g15, 0, none⟩) _ c15), (6, .bool _), (7, .int _ _), (17, .slice _ _ _), (18, .int _ _), (19, .int _ _), (24, .slice _ _ _), (25, .int _ _), (26, .int _ _)] ⟨rfl, rfl, rfl, rfl, rfl, rfl, rfl, rfl, rfl, rfl, rfl, trivial⟩ fun σ => ?_
              refine gseq fun N16 hN16 => ?_
              refine gblock ?_
              refine gseq fun N17 hN17 => ?_
              refine greg ?_
              refine gop (y_indexAddr (m := j) Tryd.underlying28 Tryd.sizeOf3 (congrArg (fun z => Value.slice z d[k].l.length d[k].c) hq2) rfl (by omega) (by omega) (by omega)) rfl rfl rfl ?_
              refine gop (y_load Tryd.isAgg3 rfl (cell_base (hcb 0 _ rfl))) rfl rfl rfl ?_
              refine gop (y_assign (v := .int _ _) rfl) rfl rfl rfl ?_
              refine gops_nil ?_
              refine hN17 _ _ ?_
              refine gfrom [(0, .slice _ _ _), (1, .int _ _), (5, .slice (some ⟨g15, 0, none⟩) _ c15), (6, .bool _), (7, .int _ _), (10, .int _ _), (17, .slice _ _ _), (18, .int _ _), (19, .int _ _), (24, .slice _ _ _), (25, .int _ _), (26, .int _ _)] ⟨rfl, rfl, rfl, rfl, rfl, rfl, rfl, rfl, rfl, rfl, rfl, rfl, trivial⟩ fun σ => ?_
              refine gseq fun N18 hN18 => ?_
              refine greg ?_
              refine gop (y_move (v := .slice (some ⟨g15, 0, none⟩) _ c15) rfl) rfl rfl rfl ?_
              refine gop (y_move (v := .int _ _) rfl) rfl rfl rfl ?_
              refine gop (y_indexAddr (m := d[k].l[j].toNat) Tryd.underlying28 Tryd.sizeOf3 rfl rfl (by omega) (by omega) (by omega)) rfl rfl rfl ?_
              refine gop (y_load Tryd.isAgg3 rfl (cells_rowl 1 (f := intCells) rfl hol.symm (fun _ => rfl) (List.getElem?_eq_getElem hnl) 0 _ rfl)) rfl rfl rfl ?_
              refine gop (y_add rfl rfl ⟨by omega, by omega⟩) rfl rfl rfl ?_
              refine gop (y_assign (v := .int _ _) rfl) rfl rfl rfl ?_
              refine gops_nil ?_
              refine hN18 _ _ ?_
              refine gfrom [(0, .slice _ _ _), (1, .int _ _), (5, .slice (some ⟨g15, 0, none⟩) _ c15), (6, .bool _), (7, .int _ _), (10, .int _ _), (11, .int _ _), (17, .slice _ _ _), (18, .int _ _), (19, .int _ _), (24, .slice _ _ _), (25, .int _ _), (26, .int _ _)] ⟨rfl, rfl, rfl, rfl, rfl, rfl, rfl, rfl, rfl, rfl, rfl, rfl, rfl, trivial⟩ fun σ => ?_
              refine gseq fun N19 hN19 => ?_
              refine gfrom [(0, .slice _ _ _), (1, .int _ _), (5, .slice (some ⟨g15, 0, none⟩) _ c15), (6, .bool _), (7, .int _ _), (10, .int _ _), (11, .int _ _), (17, .slice _ _ _), (18, .int _ _), (19, .int _ _), (24, .slice _ _ _), (25, .int _ _), (26, .int _ _)] ⟨rfl, rfl, rfl, rfl, rfl, rfl, rfl, rfl, rfl, rfl, rfl, rfl, rfl, trivial⟩ fun σ => ?_
              refine gcut3 (Lf := [(0, .slice _ _ _), (1, .int _ _), (5, .slice (some ⟨g15, 0, none⟩) _ c15), (6, .bool _), (7, .int _ _), (17, .slice _ _ _), (18, .int _ _), (19, .int _ _), (24, .slice _ _ _), (25, .int _ _), (26, .int _ _)]) (G := Int) (fun dd => (dd = out3[d[k].l[j].toNat] + 1 ∧ d[k].l[j] ≠ to ∨ dd = 1 ∧ d[k].l[j] = to)) (fun dd => [(11, .int .i64 dd)]) (fun dd => []) ⟨rfl, rfl, rfl, rfl, rfl, rfl, rfl, rfl, rfl, rfl, rfl, trivial⟩ ?_ ?_
              ·
                refine gseq fun N20 hN20 => ?_
                refine greg ?_
                refine gop (y_move (v := .int _ _) rfl) rfl rfl rfl ?_
                refine gop (y_move (v := .int _ _) rfl) rfl rfl rfl ?_
                refine gop (y_eql rfl rfl) rfl rfl rfl ?_
                refine gops_nil ?_
                refine hN20 _ _ ?_
                refine gfrom [(0, .slice _ _ _), (1, .int _ _), (5, .slice (some ⟨g15, 0, none⟩) _ c15), (6, .bool _), (7, .int _ _), (11, .int _ _), (17, .slice _ _ _), (18, .int _ _), (19, .int _ _), (24, .slice _ _ _), (25, .int _ _), (26, .int _ _), (37, .bool _)] ⟨rfl, rfl, rfl, rfl, rfl, rfl, rfl, rfl, rfl, rfl, rfl, rfl, rfl, trivial⟩ fun σ => ?_
                refine gcond (b := _) rfl (fun hc37 => ?_) (fun hc37 => ?_)
                · 
                  replace hc37 := of_decide_eq_true hc37
                  refine greg ?_
                  refine gop (y_assign (v := .int _ _) rfl) rfl rfl rfl ?_
                  refine gops_nil ?_
                  refine gcut3_end (1) (.inr ⟨rfl, hc37⟩) ⟨rfl, trivial⟩ ⟨rfl, rfl, rfl, rfl, rfl, rfl, rfl, rfl, rfl, rfl, rfl, trivial⟩ ⟨_, rfl⟩
                · 
                  replace hc37 := of_decide_eq_false hc37
                  refine gskip ?_
                  refine gcut3_end (_) (.inl ⟨rfl, hc37⟩) ⟨rfl, trivial⟩ ⟨rfl, rfl, rfl, rfl, rfl, rfl, rfl, rfl, rfl, rfl, rfl, trivial⟩ ⟨_, rfl⟩
              ·
                rintro dd hcut σ
                refine hN19 _ _ ?_
                have hdd := hcut
                refine gseq fun N21 hN21 => ?_
                refine greg ?_
                refine gop (y_move (v := .int _ _) rfl) rfl rfl rfl ?_
                refine gop (y_move (v := .slice (some ⟨g15, 0, none⟩) _ c15) rfl) rfl rfl rfl ?_
                refine gop (y_move (v := .int _ _) rfl) rfl rfl rfl ?_
                refine gop (y_indexAddr (m := k) Tryd.underlying28 Tryd.sizeOf3 rfl rfl (by omega) (by omega) (by omega)) rfl rfl rfl ?_
                refine gop (y_load Tryd.isAgg3 rfl (cells_rowl 1 (f := intCells) rfl hol.symm (fun _ => rfl) (List.getElem?_eq_getElem hkl) 0 _ rfl)) rfl rfl rfl ?_
                refine gop (y_lss rfl rfl) rfl rfl rfl ?_
                refine gops_nil ?_
                refine hN21 _ _ ?_
                refine gT [box b12 _, rowl _ _ _ _ _ _] rfl ?_
                refine gfrom [(0, .slice _ _ _), (1, .int _ _), (5, .slice (some ⟨g15, 0, none⟩) _ c15), (6, .bool _), (7, .int _ _), (11, .int _ _), (17, .slice _ _ _), (18, .int _ _), (19, .int _ _), (24, .slice _ _ _), (25, .int _ _), (26, .int _ _), (43, .bool _)] ⟨rfl, rfl, rfl, rfl, rfl, rfl, rfl, rfl, rfl, rfl, rfl, rfl, rfl, trivial⟩ fun σ => ?_
                refine gcond (b := _) rfl (fun hc43 => ?_) (fun hc43 => ?_)
                · 
                  replace hc43 := of_decide_eq_true hc43
                  obtain ⟨hu1, hu2, hu3⟩ := di_up hdi hkl hn0.1 hn0.2 hdd hc43
                  refine greg ?_
                  refine gop (y_move (v := .slice (some ⟨g15, 0, none⟩) _ c15) rfl) rfl rfl rfl ?_
                  refine gop (y_move (v := .int _ _) rfl) rfl rfl rfl ?_
                  refine gop (y_move (v := .int _ _) rfl) rfl rfl rfl ?_
                  refine gop (y_indexAddr (m := k) Tryd.underlying28 Tryd.sizeOf3 rfl rfl (by omega) (by omega) (by omega)) rfl rfl rfl ?_
                  refine gop_store_row 1 (f := intCells) (l := out3) (k := k) (o := 0) (v := .int _ _) (a := out3[k]) (a' := dd) (fun _ => rfl) rfl rfl rfl Tryd.sizeOf3 rfl rfl rfl rfl hol.symm (List.getElem?_eq_getElem hkl) (Nat.le_of_ble_eq_true rfl) rfl rfl ?_
                  refine gop (y_assign (v := .bool _) rfl) rfl rfl rfl ?_
                  refine gops_nil ?_
                  refine hN16 _ _ ?_
                  refine gT [box b12 _, rowl _ _ _ _ _ _] rfl ?_
                  refine gfrom [(0, .slice _ _ _), (1, .int _ _), (5, .slice (some ⟨g15, 0, none⟩) _ c15), (6, .bool _), (7, .int _ _), (17, .slice _ _ _), (18, .int _ _), (19, .int _ _), (24, .slice _ _ _), (25, .int _ _), (26, .int _ _)] ⟨rfl, rfl, rfl, rfl, rfl, rfl, rfl, rfl, rfl, rfl, rfl, trivial⟩ fun σ => ?_
                  refine greg ?_
                  refine gop (y_add rfl rfl ⟨by omega, by omega⟩) rfl rfl rfl ?_
                  refine gop (y_move (v := .int _ _) rfl) rfl rfl rfl ?_
                  refine gops_nil ?_
                  refine gnext2 ((j + 1, true, out3.set k dd)) (by show d[k].l.length - (j + 1) < d[k].l.length - j; omega) (⟨by show j + 1 ≤ _; omega, di_set hdi hu1 hu2 hu3, less2_set hls hkl hu2 hc43⟩) ⟨rfl, rfl, trivial⟩ ⟨rfl, rfl, rfl, rfl, rfl, rfl, rfl, rfl, rfl, trivial⟩ ⟨_, rfl⟩
                · 
                  replace hc43 := of_decide_eq_false hc43
                  refine gskip ?_
                  refine hN16 _ _ ?_
                  refine gfrom [(0, .slice _ _ _), (1, .int _ _), (5, .slice (some ⟨g15, 0, none⟩) _ c15), (6, .bool _), (7, .int _ _), (17, .slice _ _ _), (18, .int _ _), (19, .int _ _), (24, .slice _ _ _), (25, .int _ _), (26, .int _ _)] ⟨rfl, rfl, rfl, rfl, rfl, rfl, rfl, rfl, rfl, rfl, rfl, trivial⟩ fun σ => ?_
                  refine greg ?_
                  refine gop (y_add rfl rfl ⟨by omega, by omega⟩) rfl rfl rfl ?_
                  refine gop (y_move (v := .int _ _) rfl) rfl rfl rfl ?_
                  refine gops_nil ?_
                  refine gnext2 ((j + 1, b3, out3)) (by show d[k].l.length - (j + 1) < d[k].l.length - j; omega) (⟨by show j + 1 ≤ _; omega, hdi, hls⟩) ⟨rfl, rfl, trivial⟩ ⟨rfl, rfl, rfl, rfl, rfl, rfl, rfl, rfl, rfl, trivial⟩ ⟨_, rfl⟩
            · 
              replace hc27 := of_decide_eq_false hc27
              refine gexit ?_
              refine hN11 _ _ ?_
              refine gfrom [(0, .slice _ _ _), (1, .int _ _), (5, .slice (some ⟨g15, 0, none⟩) _ c15), (6, .bool _), (17, .slice _ _ _), (18, .int _ _), (19, .int _ _)] ⟨rfl, rfl, rfl, rfl, rfl, rfl, rfl, trivial⟩ fun σ => ?_
              refine greg ?_
              refine gop (y_add rfl rfl ⟨by omega, by omega⟩) rfl rfl rfl ?_
              refine gop (y_move (v := .int _ _) rfl) rfl rfl rfl ?_
              refine gops_nil ?_
              refine gnext2 ((k + 1, b3, out3)) (by show d.length - (k + 1) < d.length - k; omega) (⟨by show k + 1 ≤ _; omega, hdi, hls⟩) ⟨rfl, rfl, trivial⟩ ⟨rfl, rfl, rfl, rfl, rfl, trivial⟩ ⟨_, rfl⟩
        · 
          replace hc20 := of_decide_eq_false hc20
          refine gexit ?_
          refine gnext2 ((b2, out2)) (by obtain ⟨h8, h9⟩ := hls2; subst hc16; cases b2 with | false => rw [h8 rfl]; simp | true => have h7 := h9 rfl; simp; omega) (hdi2) ⟨rfl, trivial⟩ ⟨rfl, rfl, rfl, trivial⟩ ⟨_, rfl⟩
    · 
      refine gexit ?_
      refine hN3 _ _ ?_
      refine gfrom [(5, .slice A15 _ c15)] ⟨rfl, trivial⟩ fun σ => ?_
      refine gseq fun N22 hN22 => ?_
      refine greg ?_
      refine gop (y_move (v := .slice A15 _ c15) rfl) rfl rfl rfl ?_
      refine gop (y_assign (v := .slice A15 _ c15) rfl) rfl rfl rfl ?_
      refine gops_nil ?_
      refine hN22 _ _ ?_
      refine gfrom [(4, .slice A15 _ c15)] ⟨rfl, trivial⟩ fun σ => ?_
      refine gret fun w1 hM => ?_
      refine ⟨_, res1 rfl (rt (v := .slice A15 _ c15) rfl), ?_⟩
      exact ⟨_, _, out, rfl, hdi0, ⟨lo15, hlo15, rfl⟩, hM.dropTo 1 rfl⟩
set_option maxHeartbeats 2000000 in
theorem dgCyclic_any (w : World) (A : Option Addr) (c : Nat) (d : List LC) (hd : DepsR w 0 A d) (hlc : d.length ≤ c) (hcm : c ≤ maxLen) (hD : Down (ll d)) : Calls Tryd.prog 18 #[.slice A d.length c] w fun e w' => e = .returned (.int .i64 (-1)) ∧ Below w.heap.size w w' := by
  have hmx : maxLen = 9223372036854775807 := rfl
  have hlen : d.length ≤ 24 := by have h9 := hD.len; simpa using h9
  refine gcalls Tryd.func18 rfl Tryd.ntmps18 (Nat.le_of_ble_eq_true rfl) ?_
  refine gfrom [(0, .slice _ _ _)] ⟨rfl, trivial⟩ fun σ => ?_
  refine gseq fun N1 hN1 => ?_
  refine greg ?_
  refine gop (y_assign (v := .int _ _) rfl) rfl rfl rfl ?_
  refine gops_nil ?_
  refine hN1 _ _ ?_
  refine gfrom [(0, .slice _ _ _)] ⟨rfl, trivial⟩ fun σ => ?_
  refine gseq fun N2 hN2 => ?_
  refine gseq fun N3 hN3 => ?_
  refine greg ?_
  refine gop (y_move (v := .slice _ _ _) rfl) rfl rfl rfl ?_
  refine gop (y_len Tryd.underlying33 rfl) rfl rfl rfl ?_
  refine gop (y_move (v := .int _ _) rfl) rfl rfl rfl ?_
  refine gops_nil ?_
  refine hN3 _ _ ?_
  refine gfrom [(0, .slice _ _ _), (5, .int _ _), (6, .int _ _)] ⟨rfl, rfl, rfl, trivial⟩ fun σ => ?_
  refine gblock ?_
  refine gfrom2 [(6, .int _ _)] [(0, .slice _ _ _), (5, .int _ _)] ⟨rfl, trivial⟩ ⟨rfl, rfl, trivial⟩ fun σ => ?_
  refine gloop2 (G := Nat) (fun k => k ≤ d.length) (fun k => d.length - k) (fun k => [(6, .int .i64 (k : Int))]) (fun k => []) (0) ?h0 ⟨rfl, trivial⟩ ⟨rfl, rfl, trivial⟩ rfl ?round
  case h0 => exact Nat.zero_le _
  case round =>
    intro k hφ σ
    have hk : k ≤ d.length := hφ
    refine gseq fun N4 hN4 => ?_
    refine greg ?_
    refine gop (y_lss rfl rfl) rfl rfl rfl ?_
    refine gops_nil ?_
    refine hN4 _ _ ?_
    refine gfrom [(0, .slice _ _ _), (5, .int _ _), (6, .int _ _), (7, .bool _)] ⟨rfl, rfl, rfl, rfl, trivial⟩ fun σ => ?_
    refine gseq fun N5 hN5 => ?_
    refine gcond (b := _) rfl (fun hc7 => ?_) (fun hc7 => ?_)
    · 
      replace hc7 := of_decide_eq_true hc7
      have hk1 : k < d.length := by omega
      refine gskip ?_
      refine hN5 _ _ ?_
      refine gfrom [(0, .slice _ _ _), (5, .int _ _), (6, .int _ _)] ⟨rfl, rfl, rfl, trivial⟩ fun σ => ?_
      refine gseq fun N6 hN6 => ?_
      refine gblock ?_
      refine gseq fun N7 hN7 => ?_
      refine greg ?_
      refine gop (y_move (v := .int _ _) rfl) rfl rfl rfl ?_
      refine gop (y_assign (v := .int _ _) rfl) rfl rfl rfl ?_
      refine gops_nil ?_
      refine hN7 _ _ ?_
      refine gfrom [(0, .slice _ _ _), (3, .int _ _), (5, .int _ _), (6, .int _ _)] ⟨rfl, rfl, rfl, rfl, trivial⟩ fun σ => ?_
      refine gseq fun N8 hN8 => ?_
      refine greg ?_
      refine gop (y_move (v := .slice _ _ _) rfl) rfl rfl rfl ?_
      refine gop (y_move (v := .int _ _) rfl) rfl rfl rfl ?_
      refine gop_got (fun v T' => ∃ lo out, DI d.length k out ∧ w.heap.size ≤ lo ∧ T' = [rowl intCells lo 3 1 v out]) (e_call (vs := [.slice _ _ _, .int _ _]) Tryd.func24 rfl (by kernel_rfl) rfl) (fun w hM => (dgDistances_any w A c d (hd.base hM) hlc hcm hD k).mono fun _ _ ⟨v, T1, out, h1, h2, ⟨lo, h3, h4⟩, h5⟩ => ⟨v, T1, h1, ⟨lo, out, h2, Nat.le_trans hM.low.size h3, h4⟩, h5⟩) rfl rfl rfl ?_
      rintro v11 _ ⟨lo11, out, hdi, hlo11, rfl⟩
      have hol := hdi.len
      have hkl : k < out.length := by omega
      refine gops_fact (fun w hM => own_some (hM.own 0 rfl) (by omega)) ?_
      rintro ⟨g11, c11, rfl, hc11, hm11⟩
      refine gop (y_move (v := .int _ _) rfl) rfl rfl rfl ?_
      refine gop (y_indexAddr (m := k) Tryd.underlying28 Tryd.sizeOf3 rfl rfl (by omega) (by omega) (by omega)) rfl rfl rfl ?_
      refine gop (y_load Tryd.isAgg3 rfl (cells_rowl 0 (f := intCells) rfl rfl (fun _ => rfl) (List.getElem?_eq_getElem hkl) 0 _ rfl)) rfl rfl rfl ?_
      refine gop (y_lss rfl rfl) rfl rfl rfl ?_
      refine gops_nil ?_
      refine hN8 _ _ ?_
      refine gT [rowl _ _ _ _ _ _] rfl ?_
      refine gfrom [(0, .slice _ _ _), (3, .int _ _), (5, .int _ _), (6, .int _ _), (15, .bool _)] ⟨rfl, rfl, rfl, rfl, rfl, trivial⟩ fun σ => ?_
      refine gcond (b := _) rfl (fun hc15 => ?_) (fun hc15 => ?_)
      · 
         exfalso; have h9 := of_decide_eq_true hc15; have h8 := hdi.far k hkl (Nat.le_refl _); omega
      · 
        replace hc15 := of_decide_eq_false hc15
        refine gskip ?_
        refine hN6 _ _ ?_
        refine gfrom [(0, .slice _ _ _), (5, .int _ _), (6, .int _ _)] ⟨rfl, rfl, rfl, trivial⟩ fun σ => ?_
        refine greg ?_
        refine gop (y_add rfl rfl ⟨by omega, by omega⟩) rfl rfl rfl ?_
        refine gop (y_move (v := .int _ _) rfl) rfl rfl rfl ?_
        refine gops_nil ?_
        refine gnext2 (k + 1) (by omega) (show k + 1 ≤ _ by omega) ⟨rfl, trivial⟩ ⟨rfl, rfl, trivial⟩ ⟨_, rfl⟩
    · 
      replace hc7 := of_decide_eq_false hc7
      refine gexit ?_
      refine hN2 _ _ ?_
      refine gfrom [] trivial fun σ => ?_
      refine gseq fun N9 hN9 => ?_
      refine greg ?_
      refine gop (y_assign (v := .int _ _) rfl) rfl rfl rfl ?_
      refine gops_nil ?_
      refine hN9 _ _ ?_
      refine gfrom [(2, .int _ _)] ⟨rfl, trivial⟩ fun σ => ?_
      refine gret fun w1 hM => ?_
      refine ⟨_, res1 rfl (rt (v := .int _ _) rfl), ?_⟩
      exact ⟨rfl, hM.low⟩
set_option maxHeartbeats 1000000 in
theorem dgCheckOrder_any (w : World) (A : Option Addr) (c : Nat) (d : List LC) (hd : DepsR w 0 A d) (hlc : d.length ≤ c) (hcm : c ≤ maxLen) (hD : Down (ll d)) : Calls Tryd.prog 10 #[.slice A d.length c] w fun e w' => e = .returned (fv ⟨0, 0⟩) ∧ Below w.heap.size w w' := by
  have hmx : maxLen = 9223372036854775807 := rfl
  have hlen : d.length ≤ 24 := by have h9 := hD.len; simpa using h9
  refine gcalls Tryd.func10 rfl Tryd.ntmps10 (Nat.le_of_ble_eq_true rfl) ?_
  refine gfrom [(0, .slice _ _ _)] ⟨rfl, trivial⟩ fun σ => ?_
  refine gseq fun N1 hN1 => ?_
  refine greg ?_
  refine gop_alloc (cs := #[.int .i64 0, .int .i64 0]) Tryd.zeroValue25 rfl rfl (fun b2 hb2 => ?_)
  refine gops_nil ?_
  refine hN1 _ _ ?_
  refine gT [box b2 _] rfl ?_
  refine gfrom [(0, .slice _ _ _), (2, .pointer _)] ⟨rfl, rfl, trivial⟩ fun σ => ?_
  refine gseq fun N2 hN2 => ?_
  refine gseq fun N3 hN3 => ?_
  refine greg ?_
  refine gop (y_move (v := .slice _ _ _) rfl) rfl rfl rfl ?_
  refine gop_pure (e_call (vs := [.slice _ _ _]) Tryd.func17 rfl (by kernel_rfl) rfl) (fun w hM => dgValidate_any w A c d (hd.base hM) hlc hcm hD) rfl rfl rfl ?_
  refine gop_alloc (cs := #[.int .i64 0, .int .i64 0]) Tryd.zeroValue25 rfl rfl (fun b3 hb3 => ?_)
  refine gop_store 1 (v := .agg #[_, _]) (cs' := #[_, _]) rfl rfl Tryd.sizeOf25 rfl rfl rfl rfl (Nat.le_of_ble_eq_true rfl) rfl rfl ?_
  refine gops_nil ?_
  refine hN3 _ _ ?_
  refine gT [box b2 _, box b3 _] rfl ?_
  refine gfrom [(0, .slice _ _ _), (2, .pointer _), (3, .pointer _)] ⟨rfl, rfl, rfl, trivial⟩ fun σ => ?_
  refine gseq fun N4 hN4 => ?_
  refine greg ?_
  refine gop (y_loads (cs := [_, _]) Tryd.isAgg25 Tryd.sizeOf25 rfl rfl (cells_box 1 rfl)) rfl rfl rfl ?_
  refine gop (y_build (vs := []) (cells := #[.int .i64 0, .int .i64 0]) rfl bd25_) rfl rfl rfl ?_
  refine gop (y_bin (vx := .agg #[_, _]) (vy := .agg #[_, _]) rfl rfl (fun w => eg25 _ _ _ _ _ w) (fun w => ne25 _ _ _ _ w)) rfl rfl rfl ?_
  refine gops_nil ?_
  refine hN4 _ _ ?_
  refine gfrom [(0, .slice _ _ _), (2, .pointer _), (3, .pointer _), (9, .bool _)] ⟨rfl, rfl, rfl, rfl, trivial⟩ fun σ => ?_
  refine gcond (b := _) rfl (fun hc9 => ?_) (fun hc9 => ?_)
  · 
     exact absurd hc9 (by simp)
  · 
    refine gskip ?_
    refine hN2 _ _ ?_
    refine gfrom [(0, .slice _ _ _), (2, .pointer _)] ⟨rfl, rfl, trivial⟩ fun σ => ?_
    refine gseq fun N5 hN5 => ?_
    refine gseq fun N6 hN6 => ?_
    refine greg ?_
    refine gop (y_move (v := .slice _ _ _) rfl) rfl rfl rfl ?_
    refine gop_pure (e_call (vs := [.slice _ _ _]) Tryd.func18 rfl (by kernel_rfl) rfl) (fun w hM => dgCyclic_any w A c d (hd.base hM) hlc hcm hD) rfl rfl rfl ?_
    refine gop (y_assign (v := .int _ _) rfl) rfl rfl rfl ?_
    refine gops_nil ?_
    refine hN6 _ _ ?_
    refine gfrom [(2, .pointer _), (4, .int _ _)] ⟨rfl, rfl, trivial⟩ fun σ => ?_
    refine gseq fun N7 hN7 => ?_
    refine greg ?_
    refine gop (y_move (v := .int _ _) rfl) rfl rfl rfl ?_
    refine gop (y_geq rfl rfl) rfl rfl rfl ?_
    refine gops_nil ?_
    refine hN7 _ _ ?_
    refine gfrom [(2, .pointer _), (4, .int _ _), (14, .bool _)] ⟨rfl, rfl, rfl, trivial⟩ fun σ => ?_
    refine gcond (b := _) rfl (fun hc14 => ?_) (fun hc14 => ?_)
    · 
       exfalso; have h9 := of_decide_eq_true hc14; omega
    · 
      replace hc14 := of_decide_eq_false hc14
      refine gskip ?_
      refine hN5 _ _ ?_
      refine gfrom [(2, .pointer _)] ⟨rfl, trivial⟩ fun σ => ?_
      refine gseq fun N8 hN8 => ?_
      refine greg ?_
      refine gop (y_build (vs := []) (cells := #[.int .i64 0, .int .i64 0]) rfl bd25_) rfl rfl rfl ?_
      refine gop_store 0 (v := .agg #[_, _]) (cs' := #[_, _]) rfl rfl Tryd.sizeOf25 rfl rfl rfl rfl (Nat.le_of_ble_eq_true rfl) rfl rfl ?_
      refine gops_nil ?_
      refine hN8 _ _ ?_
      refine gT [box b2 _, box b3 _] rfl ?_
      refine gfrom [(2, .pointer _)] ⟨rfl, trivial⟩ fun σ => ?_
      refine gret fun w1 hM => ?_
      refine ⟨_, res1 rfl (rc 0 (cs := [_, _]) hM rfl rfl Tryd.isAgg25 Tryd.sizeOf25 rfl), ?_⟩
      exact ⟨rfl, hM.low⟩
end Go.Proofs.YtlmhppnbcbadbaaDoor
