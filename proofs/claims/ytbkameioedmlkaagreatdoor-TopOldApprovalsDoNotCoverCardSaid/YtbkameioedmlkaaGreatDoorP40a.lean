/- Own frame, plain models and walks, part 1 (texts of this claim put together). -/
import Derived.Below
import Derived.Carry
import Derived.Deep.AppendLies
import Derived.Deep.Quiet
import Derived.IntWalk
import Derived.Laws.BitsLemmas
import Derived.Laws.Cover1
import Derived.Laws.Cover3
import Derived.Laws.Externs
import Derived.Laws.IdiomStrings
import Derived.Laws.OwnMore
import Derived.Laws.Runes
import Derived.Laws.Strings
import Derived.Laws.Strings2
import Derived.Laws.StructEq
import Derived.Laws.Tables
import Derived.Lib.Bytealg
import Derived.Maps.AppendAt
import Derived.Maps.Keyed
import Derived.OrdersHeld
import Derived.OwnWalk
import Derived.RangeFuncCalls
import Derived.RangeFuncLeaves
import Derived.RangeFuncRecord
import Derived.RangeFuncSeq
import Derived.TacticsIn
import Derived.WalkKit
import Derived.WideKeyRuns
namespace Go.Cf
universe zz
theorem U {α : Sort zz} {a : α} : a = a := rfl
theorem O : True := True.intro
theorem leb {a b : Nat} (h : Nat.ble a b = true) : a ≤ b := Nat.le_of_ble_eq_true h
theorem odt {p : Prop} [Decidable p] (h : decide p = true) : p := of_decide_eq_true h
theorem odf {p : Prop} [Decidable p] (h : decide p = false) : ¬ p := of_decide_eq_false h
end Go.Cf
namespace Go.Cf
abbrev Env := Nat → Value
def upd (ρ : Env) (t : Nat) (v : Value) : Env := fun s => bif Nat.beq s t then v else ρ s
def updL (ρ : Env) : List (Nat × Value) → Env
  | [] => ρ
  | (t, v) :: l => upd (updL ρ l) t v
def ev (ρ : Env) : Operand → Value
  | .tmp t => ρ t
  | .const v => v
  | .global g => .pointer (some ⟨g, 0, none⟩)
  | .func f => .func (.func f) #[] #[]
def agree (ρ : Env) : List (Nat × Value) → Prop
  | [] => True
  | (t, v) :: l => ρ t = v ∧ agree ρ l
theorem beq_no {s t : Nat} (h : s ≠ t) : Nat.beq s t = false := by
  cases e : Nat.beq s t with
  | false => rfl
  | true => exact absurd (Nat.eq_of_beq_eq_true e) h
theorem upd_same (ρ : Env) (t : Nat) (v : Value) : upd ρ t v t = v := by simp [upd]
theorem upd_other (ρ : Env) {t s : Nat} (v : Value) (h : s ≠ t) : upd ρ t v s = ρ s := by
  have : Nat.beq s t = false := beq_no h
  simp [upd, this]
theorem upd_self (ρ : Env) (t : Nat) (v : Value) (h : ρ t = v) : upd ρ t v = ρ := by
  funext s
  by_cases e : s = t
  · subst e; rw [upd_same, h]
  · rw [upd_other _ _ e]
theorem Yi (ρ : Env) : ∀ l, agree ρ l → updL ρ l = ρ
  | [], _ => rfl
  | (t, v) :: l, h => by
    show upd (updL ρ l) t v = ρ
    rw [Yi ρ l h.2, upd_self _ _ _ h.1]
structure Fr where
  n : Nat
  ds : List Deferred
  rd : Option (Option Nat)
def fen : Option Nat → Fence
  | none => Fence.wide
  | some l => Fence.wide.inRound l
theorem fen_fn (r : Option Nat) (f : Nat) : (fen r).fn f := by cases r <;> trivial
theorem fen_depth (r : Option Nat) : (fen r).depth = none := by cases r <;> rfl
abbrev Fr.plain (n : Nat) : Fr := ⟨n, [], none⟩
structure Is (n : Fr) (ρ : Env) (a : Act) : Prop where
  defers : a.defers = n.ds
  size : a.tmps.size = n.n
  val : ∀ t, a.tmps.getD t undef = ρ t
theorem Is.eval {n : Fr} {ρ : Env} {a : Act} (h : Is n ρ a) : a.eval = ev ρ := by
  funext x
  cases x with
  | tmp t => exact h.val t
  | const v => rfl
  | global g => rfl
  | func f => rfl
theorem Is.put {n : Fr} {ρ : Env} {a : Act} (h : Is n ρ a) {d : Nat} (hd : Nat.blt d n.n = true) (v : Value) : Is n (upd ρ d v) (a.put (some d) v) := by
  have hd' : d < n.n := Nat.le_of_ble_eq_true hd
  refine ⟨h.defers, by simp [Act.put, h.size], fun t => ?_⟩
  have hs : d < a.tmps.size := by rw [h.size]; exact hd'
  by_cases e : t = d
  · subst e
    simp [Act.put, upd_same, hs]
  · rw [upd_other _ _ e, ← h.val t]
    simp only [Act.put, Array.getD_eq_getD_getElem?]
    rw [Array.getElem?_setIfInBounds_ne (fun h => e h.symm)]
def Ends (n : Fr) (R : Env → World → Prop) (a : Act) (w : World) : Prop :=
  ∃ ρ, a.tmps.size = n.n ∧ (∀ t, a.tmps.getD t undef = ρ t) ∧ ((a.defers = n.ds ∧ R ρ w) ∨
    (n.ds = [] ∧ n.rd = none ∧ ∃ D, a.defers = [{ target := .collected D, args := #[] }] ∧ w.heap[D]? = some (.deferred (some [])) ∧ R ρ (w.putObj D (.deferred none))))
theorem Ends.none {n : Fr} {a : Act} {w : World} (h : Ends n (fun _ _ => False) a w) : False := by
  obtain ⟨_, _, _, h | ⟨_, _, _, _, _, h⟩⟩ := h
  · exact h.2
  · exact h
theorem Is.ends {n : Fr} {ρ : Env} {a : Act} {w : World} {R : Env → World → Prop} (h : Is n ρ a) (hR : R ρ w) : Ends n R a w := ⟨ρ, h.size, h.val, .inl ⟨h.defers, hR⟩⟩
def Out (n : Fr) (N : Env → World → Prop) (X : Nat → Env → World → Prop) (R : Env → World → Prop) : Exit → Act → World → Prop
  | .normal, a, w => ∃ ρ, Is n ρ a ∧ N ρ w
  | .exit i, a, w => ∃ ρ, Is n ρ a ∧ X i ρ w
  | .ret, a, w => Ends n R a w
  | _, _, _ => False
def cw (n : Fr) (P : Program) (c : Code) (Q : Exit → Act → World → Prop) (a : Act) (w : World) : Prop :=
  match n.rd with
  | none => c.wp P Q a w
  | some l => c.wpIn (fen l) 0 P Q a w
section
variable {n : Fr} {P : Program} {Q Q' : Exit → Act → World → Prop} {a : Act} {w : World} {x y c : Code}
theorem KW (h : cw n P c Q a w) (hq : ∀ e a w, Q e a w → Q' e a w) : cw n P c Q' a w := by
  unfold cw at *; split at h
  · exact wp_mono h hq
  · exact wpIn_mono h hq
theorem cw_seq (h : cw n P x (Exit.then (cw n P y Q) Q) a w) : cw n P (.seq x y) Q a w := by
  unfold cw at *; split at h
  · exact wp_seq h
  · exact wpIn_seq h
theorem cw_skip (h : Q .normal a w) : cw n P .skip Q a w := by
  unfold cw; split
  · exact wp_skip h
  · exact wpIn_skip h
theorem cw_exit {i : Nat} (h : Q (.exit i) a w) : cw n P (.exit i) Q a w := by
  unfold cw; split
  · exact wp_exit h
  · exact wpIn_exit h
theorem cw_ret (h : Q .ret a w) : cw n P .ret Q a w := by
  unfold cw; split
  · exact wp_ret h
  · exact wpIn_ret h
theorem cw_cond_split {c : Operand} {t : Bool} (hc : a.eval c = .bool t) (ht : t = true → cw n P x Q a w) (hf : t = false → cw n P y Q a w) : cw n P (.cond c x y) Q a w := by
  obtain ⟨k, ds, rd⟩ := n
  cases rd with
  | none => exact wp_cond_split hc ht hf
  | some l => exact wpIn_cond_split hc ht hf
theorem cw_block {id : Nat} (h : cw n P c (Exit.inBlock id Q) a w) : cw n P (.block id c) Q a w := by
  unfold cw at *; split at h
  · exact wp_block h
  · exact wpIn_block h
theorem cw_of_wp (hn : n.rd = none) (h : c.wp P Q a w) : cw n P c Q a w := by unfold cw; rw [hn]; exact h
theorem wp_of_cw (hn : n.rd = none) (h : cw n P c Q a w) : c.wp P Q a w := by unfold cw at h; rw [hn] at h; exact h
end
def cwp (P : Program) (n : Fr) (c : Code) (N : Env → World → Prop) (X : Nat → Env → World → Prop) (R : Env → World → Prop) (ρ : Env) (w : World) : Prop :=
  ∀ a, Is n ρ a → cw n P c (Out n N X R) a w
section
variable {P : Program} {n : Fr} {N : Env → World → Prop} {X : Nat → Env → World → Prop} {R : Env → World → Prop} {ρ : Env} {w : World}
theorem cwp_seq {x y : Code} (h : cwp P n x (fun ρ w => cwp P n y N X R ρ w) X R ρ w) : cwp P n (.seq x y) N X R ρ w := by
  intro a ha
  refine cw_seq (KW (h a ha) fun e a' w' q => ?_)
  cases e with
  | normal => obtain ⟨ρ', h1, h2⟩ := q; exact h2 a' h1
  | exit i => exact q
  | ret => exact q
  | goto l => exact q
  | panic c => exact q
  | outgrown => exact q
theorem cwp_skip (h : N ρ w) : cwp P n .skip N X R ρ w := fun _ ha => cw_skip ⟨ρ, ha, h⟩
theorem cwp_exit {i : Nat} (h : X i ρ w) : cwp P n (.exit i) N X R ρ w := fun _ ha => cw_exit ⟨ρ, ha, h⟩
theorem cwp_ret (h : R ρ w) : cwp P n .ret N X R ρ w := fun _ ha => cw_ret (ha.ends h)
theorem cwp_cond {c : Operand} {x y : Code} {b : Bool} (hc : ev ρ c = .bool b) (h1 : b = true → cwp P n x N X R ρ w) (h2 : b = false → cwp P n y N X R ρ w) :
    cwp P n (.cond c x y) N X R ρ w := fun a ha => by
  have hc' : a.eval c = .bool b := by rw [ha.eval]; exact hc
  exact cw_cond_split hc' (fun hb => h1 hb a ha) (fun hb => h2 hb a ha)
theorem cwp_block {i : Nat} {c : Code} (h : cwp P n c N (fun j => bif Nat.beq j i then N else X j) R ρ w) : cwp P n (.block i c) N X R ρ w := by
  intro a ha
  refine cw_block (KW (h a ha) fun e a' w' q => ?_)
  cases e with
  | exit j =>
    obtain ⟨ρ', h1, h2⟩ := q
    show (if j = i then _ else _)
    by_cases e : j = i
    · subst e
      rw [if_pos rfl]
      exact ⟨ρ', h1, by simpa using h2⟩
    · rw [if_neg e]
      have : Nat.beq j i = false := beq_no e
      exact ⟨ρ', h1, by simpa [this] using h2⟩
  | normal => exact q
  | ret => exact q
  | goto l => exact q
  | panic c => exact q
  | outgrown => exact q
theorem wp_loopR {c : Code} (I : Nat → Env → World → Prop) (m0 : Nat) (h0 : I m0 ρ w) (hn : n.rd = none)
    (round : ∀ m ρ w, I m ρ w → cwp P n c (fun ρ' w' => ∃ m', m' < m ∧ I m' ρ' w') X R ρ w) : cwp P n (.loop c) N X R ρ w := by
  intro a ha
  refine cw_of_wp hn ?_
  intro b k cs
  have key : ∀ m ρ w a, I m ρ w → Is n ρ a →
      ∃ e a' w', Out n N X R e a' w' ∧ Arrives P (lone (b.at a (.code c :: .inLoop c :: k)) cs w) b k cs e a' w' := by
    intro m
    induction m using Nat.strongRecOn with
    | _ m ih =>
      intro ρ w a hI ha
      obtain ⟨e, a₁, w₁, hq, harr⟩ := wp_of_cw hn (round m ρ w hI a ha) b (.inLoop c :: k) cs
      cases e with
      | normal =>
        obtain ⟨ρ', hρ', m', hlt, hI'⟩ := hq
        obtain ⟨e₂, a₂, w₂, hq₂, harr₂⟩ := ih m' hlt ρ' w₁ a₁ hI' hρ'
        exact ⟨e₂, a₂, w₂, hq₂, .of_steps (Steps.trans harr (.one step_inLoop)) harr₂⟩
      | exit id => exact ⟨.exit id, a₁, w₁, hq, .pass (x := .inLoop c) rfl (fun _ _ => .inl (by simp)) harr⟩
      | ret => exact ⟨.ret, a₁, w₁, hq, .pass (x := .inLoop c) rfl (fun _ _ => .inl (by simp)) harr⟩
      | goto l => exact hq.elim
      | panic ch => exact hq.elim
      | outgrown => exact hq.elim
  obtain ⟨e, a', w', hq, harr⟩ := key m0 ρ w a h0 ha
  exact ⟨e, a', w', hq, .of_steps (.one step_loop) harr⟩
theorem wp_loopI {l : Option Nat} {c : Code} (I : Nat → Env → World → Prop) (m0 : Nat) (h0 : I m0 ρ w) (hn : n.rd = some l)
    (round : ∀ m ρ w, I m ρ w → cwp P n c (fun ρ' w' => ∃ m', m' < m ∧ I m' ρ' w') X R ρ w) : cwp P n (.loop c) N X R ρ w := by
  intro a ha
  unfold cw
  rw [hn]
  intro b k cs hro hb hr
  have key : ∀ m ρ w a, I m ρ w → Is n ρ a →
      ∃ e a' w', Out n N X R e a' w' ∧ ArrivesIn (Machine.fenced P (fen l)) P (lone (b.atR a (.code c :: .inLoop c :: k)) cs w) b k cs e a' w' := by
    intro m
    induction m using Nat.strongRecOn with
    | _ m ih =>
      intro ρ w a hI ha
      have hrd := round m ρ w hI a ha
      unfold cw at hrd
      rw [hn] at hrd
      obtain ⟨e, a₁, w₁, hq, harr⟩ := hrd b (.inLoop c :: k) cs hro hb hr
      cases e with
      | normal =>
        obtain ⟨ρ', hρ', m', hlt, hI'⟩ := hq
        obtain ⟨e₂, a₂, w₂, hq₂, harr₂⟩ := ih m' hlt ρ' w₁ a₁ hI' hρ'
        exact ⟨e₂, a₂, w₂, hq₂, .of_steps (StepsIn.trans harr (.one (fenced_calm hb hr rfl) stepR_inLoop)) harr₂⟩
      | exit id => exact ⟨.exit id, a₁, w₁, hq, .pass (x := .inLoop c) rfl (fun _ _ => .inl (by simp)) harr⟩
      | ret => exact ⟨.ret, a₁, w₁, hq, .pass (x := .inLoop c) rfl (fun _ _ => .inl (by simp)) harr⟩
      | goto l => exact hq.elim
      | panic ch => exact hq.elim
      | outgrown => exact hq.elim
  obtain ⟨e, a', w', hq, harr⟩ := key m0 ρ w a h0 ha
  exact ⟨e, a', w', hq, .of_steps (.one (fenced_calm hb hr rfl) stepR_loop) harr⟩
theorem cwp_loop {c : Code} (I : Nat → Env → World → Prop) (m0 : Nat) (h0 : I m0 ρ w)
    (round : ∀ m ρ w, I m ρ w → cwp P n c (fun ρ' w' => ∃ m', m' < m ∧ I m' ρ' w') X R ρ w) : cwp P n (.loop c) N X R ρ w := by
  cases hn : n.rd with
  | none => exact wp_loopR I m0 h0 hn round
  | some l => exact wp_loopI I m0 h0 hn round
end
end Go.Cf
namespace Go.Cf
open Go.RowKit
structure Reg where
  has : Nat → Prop
  ok : World → Prop
  stays : ∀ w w' : World, (∀ b, has b → w'.heap[b]? = w.heap[b]?) → ok w → ok w'
def box (b : Nat) (o : Obj) : Reg := ⟨fun k => k = b, fun w => w.heap[b]? = some o, fun _ _ h hw => (h b rfl).trans hw⟩
def room (b : Nat) (e : TypeId) (m : Nat) : Reg :=
  ⟨fun k => k = b, fun w => ∃ cs : Array Value, cs.size = m ∧ w.heap[b]? = some (.cells cs e (0, 0)), fun _ _ h ⟨cs, hm, hw⟩ => ⟨cs, hm, (h b rfl).trans hw⟩⟩
def seal_ (lo : Nat) (ws : World) : Reg :=
  ⟨fun k => lo ≤ k ∧ k < ws.heap.size, fun w => ∀ k, lo ≤ k → k < ws.heap.size → w.heap[k]? = ws.heap[k]?, fun _ _ h hw k h1 h2 => (h k ⟨h1, h2⟩).trans (hw k h1 h2)⟩
def row (base : Nat) (e : TypeId) (size : Nat) (v : Value) (n : Nat) (xs : List Value) : Reg :=
  ⟨fun k => v.ownBlock = some k, fun w => w.ownsRow base e size v n xs, fun w w' h hw => by
    refine ⟨hw.1, ?_⟩
    rcases hw.2 with h1 | ⟨g, cap, cur, rfl, h2, h3, h4⟩
    · exact .inl h1
    · exact .inr ⟨g, cap, cur, rfl, h2, (h g rfl).trans h3, h4⟩⟩
structure Mem (w0 : World) (T : List Reg) (w : World) : Prop where
  low : Below w0.heap.size w0 w
  ok : ∀ r ∈ T, r.ok w
  lt : ∀ r ∈ T, ∀ b, r.has b → b < w.heap.size
  ge : ∀ r ∈ T, ∀ b, r.has b → w0.heap.size ≤ b
  disj : T.Pairwise (fun r s => ∀ b, r.has b → s.has b → False)
structure Chg (S : Nat → Prop) (w w' : World) : Prop where
  os : w'.os = w.os
  tape : w'.tape = w.tape
  output : w'.output = w.output
  size : w.heap.size ≤ w'.heap.size
  block : ∀ k, k < w.heap.size → ¬ S k → w'.heap[k]? = w.heap[k]?
theorem Chg.of_below {S : Nat → Prop} {w w' : World} (h : Below w.heap.size w w') : Chg S w w' := ⟨h.os, h.tape, h.output, h.size, fun k hk _ => h.block k hk⟩
theorem Chg.of_grownBy {w w' : World} {row : Option Nat} (h : w.grownBy w' row) : Chg (fun k => row = some k) w w' :=
  ⟨h.os, h.tape, h.output, h.size, fun k hk hn => h.block k hk (fun e => hn e.symm)⟩
theorem Chg.setCell (w : World) (a : Addr) (v : Value) : Chg (fun k => k = a.block) w (w.setCell a v) :=
  ⟨rfl, rfl, rfl, by simp, fun k _ hn => Below.heap_setCell w a v k hn⟩
theorem Chg.trans {S : Nat → Prop} {a b c : World} (h : Chg S a b) (k : Chg S b c) : Chg S a c :=
  ⟨k.os.trans h.os, k.tape.trans h.tape, k.output.trans h.output, Nat.le_trans h.size k.size, fun i hi hn => (k.block i (Nat.lt_of_lt_of_le hi h.size) hn).trans (h.block i hi hn)⟩
section
variable {w0 w w' : World} {T : List Reg}
theorem Mem.start (w : World) : Mem w [] w := ⟨Below.refl _ _, by simp, by simp, by simp, .nil⟩
theorem Mem.drew (h : Mem w0 T w) (hh : w'.heap = w.heap) (h1 : w'.os = w.os) (h2 : w'.tape = w.tape) (h3 : w'.output = w.output) : Mem w0 T w' :=
  ⟨⟨h1.trans h.low.os, h2.trans h.low.tape, h3.trans h.low.output, by rw [hh]; exact h.low.size, fun k hk => by rw [hh]; exact h.low.block k hk⟩,
   fun r hr => r.stays w w' (fun b _ => by rw [hh]) (h.ok r hr), fun r hr b hb => by rw [hh]; exact h.lt r hr b hb, h.ge, h.disj⟩
theorem Mem.call (h : Mem w0 T w) (hb : Below w.heap.size w w') : Mem w0 T w' :=
  ⟨h.low.trans (hb.mono h.low.size), fun r hr => r.stays w w' (fun b hbb => hb.block b (h.lt r hr b hbb)) (h.ok r hr),
   fun r hr b hbb => Nat.lt_of_lt_of_le (h.lt r hr b hbb) hb.size, h.ge, h.disj⟩
theorem Mem.add (h : Mem w0 T w) (hb : Below w.heap.size w w') {r : Reg} (hr : r.ok w') (hh : ∀ b, r.has b → w.heap.size ≤ b ∧ b < w'.heap.size) : Mem w0 (T ++ [r]) w' := by
  have h' := h.call hb
  refine ⟨h'.low, ?_, ?_, ?_, ?_⟩
  · intro s hs
    rcases List.mem_append.1 hs with hs | hs
    · exact h'.ok s hs
    · rw [List.mem_singleton.1 hs]; exact hr
  · intro s hs
    rcases List.mem_append.1 hs with hs | hs
    · exact h'.lt s hs
    · rw [List.mem_singleton.1 hs]; exact fun b hb => (hh b hb).2
  · intro s hs
    rcases List.mem_append.1 hs with hs | hs
    · exact h'.ge s hs
    · rw [List.mem_singleton.1 hs]; exact fun b hb => Nat.le_trans h.low.size (hh b hb).1
  · rw [List.pairwise_append]
    refine ⟨h.disj, List.pairwise_singleton _ _, ?_⟩
    intro s hs t ht b hb1 hb2
    rw [List.mem_singleton.1 ht] at hb2
    have := h.lt s hs b hb1
    have := (hh b hb2).1
    omega
theorem Mem.sub (h : Mem w0 T w) {T' : List Reg} (hs : List.Sublist T' T) : Mem w0 T' w :=
  ⟨h.low, fun r hr => h.ok r (hs.subset hr), fun r hr => h.lt r (hs.subset hr), fun r hr => h.ge r (hs.subset hr), h.disj.sublist hs⟩
theorem Yz {R : Reg → Reg → Prop} : ∀ {T : List Reg} {i : Nat} {r r' : Reg}, T.Pairwise R → T[i]? = some r →
    (∀ s ∈ T, R s r → R s r') → (∀ s ∈ T, R r s → R r' s) → (T.set i r').Pairwise R
  | [], _, _, _, _, h, _, _ => by simp at h
  | t :: T, 0, r, r', hp, h, h1, h2 => by
    simp at h
    subst h
    simp only [List.set_cons_zero]
    rw [List.pairwise_cons] at hp ⊢
    exact ⟨fun s hs => h2 s (by simp [hs]) (hp.1 s hs), hp.2⟩
  | t :: T, i + 1, r, r', hp, h, h1, h2 => by
    simp at h
    simp only [List.set_cons_succ]
    rw [List.pairwise_cons] at hp ⊢
    have hr : r ∈ T := List.mem_of_getElem? h
    refine ⟨fun s hs => ?_, Yz hp.2 h (fun s hs => h1 s (by simp [hs])) (fun s hs => h2 s (by simp [hs]))⟩
    rcases List.mem_or_eq_of_mem_set hs with hs | rfl
    · exact hp.1 s hs
    · exact h1 t (by simp) (hp.1 r hr)
theorem Mem.other (h : Mem w0 T w) {i : Nat} {r : Reg} (hi : T[i]? = some r) (hc : Chg r.has w w') : ∀ (j : Nat) (s : Reg), T[j]? = some s → j ≠ i → s.ok w' := by
  intro j s hj hne
  refine s.stays w w' (fun b hb => hc.block b (h.lt s (List.mem_of_getElem? hj) b hb) (fun hrb => ?_)) (h.ok s (List.mem_of_getElem? hj))
  have hp := h.disj
  rw [List.pairwise_iff_getElem] at hp
  obtain ⟨hi1, hi2⟩ := List.getElem?_eq_some_iff.1 hi
  obtain ⟨hj1, hj2⟩ := List.getElem?_eq_some_iff.1 hj
  rcases Nat.lt_or_ge i j with hlt | hge
  · exact hp i j hi1 hj1 hlt b (by rw [hi2]; exact hrb) (by rw [hj2]; exact hb)
  · exact hp j i hj1 hi1 (by omega) b (by rw [hj2]; exact hb) (by rw [hi2]; exact hrb)
theorem Mem.upd (h : Mem w0 T w) {i : Nat} {r r' : Reg} (hi : T[i]? = some r) (hc : Chg r.has w w') (hr : r'.ok w')
    (hh : ∀ b, r'.has b → (r.has b ∨ w.heap.size ≤ b) ∧ b < w'.heap.size) : Mem w0 (T.set i r') w' := by
  have hrT : r ∈ T := List.mem_of_getElem? hi
  refine ⟨?_, ?_, ?_, ?_, ?_⟩
  · refine ⟨hc.os.trans h.low.os, hc.tape.trans h.low.tape, hc.output.trans h.low.output, Nat.le_trans h.low.size hc.size, fun k hk => ?_⟩
    exact (hc.block k (Nat.lt_of_lt_of_le hk h.low.size) (fun hrk => by have := h.ge r hrT k hrk; omega)).trans (h.low.block k hk)
  · intro s hs
    obtain ⟨j, hj⟩ := List.mem_iff_getElem?.1 hs
    rw [List.getElem?_set] at hj
    split at hj
    · split at hj
      · injection hj with hj; rw [← hj]; exact hr
      · cases hj
    · rename_i hne
      exact h.other hi hc j s hj (fun e => hne e.symm)
  · intro s hs b hb
    rcases List.mem_or_eq_of_mem_set hs with hs | rfl
    · exact Nat.lt_of_lt_of_le (h.lt s hs b hb) hc.size
    · exact (hh b hb).2
  · intro s hs b hb
    rcases List.mem_or_eq_of_mem_set hs with hs | rfl
    · exact h.ge s hs b hb
    · rcases (hh b hb).1 with h1 | h1
      · exact h.ge r hrT b h1
      · exact Nat.le_trans h.low.size h1
  · refine Yz h.disj hi (fun s hs hR b h1 h2 => ?_) (fun s hs hR b h1 h2 => ?_)
    · rcases (hh b h2).1 with h3 | h3
      · exact hR b h1 h3
      · have := h.lt s hs b h1; omega
    · rcases (hh b h1).1 with h3 | h3
      · exact hR b h3 h2
      · have := h.lt s hs b h2; omega
end
def Fin (w0 : World) (N : Env → World → Prop) (ρ : Env) (T : List Reg) : Prop := ∀ w, Mem w0 T w → N ρ w
def gwp (P : Program) (n : Fr) (w0 : World) (c : Code) (N : Env → World → Prop) (X : Nat → Env → World → Prop) (R : Env → World → Prop) (ρ : Env) (T : List Reg) : Prop :=
  ∀ w, Mem w0 T w → cwp P n c N X R ρ w
section
variable {P : Program} {n : Fr} {w0 : World} {N : Env → World → Prop} {X : Nat → Env → World → Prop} {R : Env → World → Prop} {ρ : Env} {T : List Reg}
theorem Jg {x y : Code} (h : ∀ N' : Env → World → Prop, (∀ ρ T, gwp P n w0 y N X R ρ T → Fin w0 N' ρ T) → gwp P n w0 x N' X R ρ T) : gwp P n w0 (.seq x y) N X R ρ T :=
  fun w hM => cwp_seq (h _ (fun _ _ hg w hM => hg w hM) w hM)
theorem Jw (h : Fin w0 N ρ T) : gwp P n w0 .skip N X R ρ T := fun w hM => cwp_skip (h w hM)
theorem Mx {i : Nat} (h : Fin w0 (X i) ρ T) : gwp P n w0 (.exit i) N X R ρ T := fun w hM => cwp_exit (h w hM)
theorem Ke (h : Fin w0 R ρ T) : gwp P n w0 .ret N X R ρ T := fun w hM => cwp_ret (h w hM)
theorem Jt {c : Operand} {x y : Code} {b : Bool} (hc : ev ρ c = .bool b) (h1 : b = true → gwp P n w0 x N X R ρ T) (h2 : b = false → gwp P n w0 y N X R ρ T) :
    gwp P n w0 (.cond c x y) N X R ρ T := fun w hM => cwp_cond hc (fun hb => h1 hb w hM) (fun hb => h2 hb w hM)
theorem Kn {i : Nat} {c : Code} (h : gwp P n w0 c N (fun j => bif Nat.beq j i then N else X j) R ρ T) : gwp P n w0 (.block i c) N X R ρ T :=
  fun w hM => cwp_block (h w hM)
theorem Jb {c : Code} (L : List (Nat × Value)) (hL : agree ρ L) (h : ∀ σ, gwp P n w0 c N X R (updL σ L) T) : gwp P n w0 c N X R ρ T := by
  rw [← Yi ρ L hL]; exact h ρ
end
def envOf (args : Array Value) : Env := fun t => args.getD t undef
theorem is_start (args : Array Value) (n : Nat) (h : args.size ≤ n) : Is (.plain n) (envOf args) { tmps := args ++ Array.replicate (n - args.size) undef, defers := [] } := by
  refine ⟨rfl, by simp; omega, fun t => ?_⟩
  simp only [envOf, Array.getD_eq_getD_getElem?, Array.getElem?_append]
  split
  · rfl
  · rename_i hlt
    rw [Array.getElem?_replicate]
    rw [Array.getElem?_eq_none (by omega)]
    split <;> rfl
def resOf (P : Program) (fn : Func) (ρ : Env) (w : World) (v : Value) : Prop := ∀ tmps : Array Value, (∀ t, tmps.getD t undef = ρ t) → (results fn tmps).run P w = .ok v w
theorem gleaves {P : Program} {fn : Func} {R : Ending → World → Prop} {n : Nat} {c : Code} {a : Act} {w : World}
    (h : cw (.plain n) P c (Out (.plain n) (fun ρ w' => ∃ v, resOf P fn ρ w' v ∧ R (.returned v) w') (fun _ _ _ => False) (fun ρ w' => ∃ v, resOf P fn ρ w' v ∧ R (.returned v) w')) a w) :
    c.wpIn Fence.wide 0 P (bodyPostM Fence.wide 0 P fn R) a w := by
  refine wpIn_wide.2 (wp_mono (wp_of_cw rfl h) fun e a' w' q => ?_)
  cases e with
  | normal =>
    obtain ⟨ρ, hI, v, hv, hR⟩ := q
    show LeavesInM _ _ _ _ _ _ a'.defers _ _
    rw [hI.defers]; exact ⟨v, hv _ hI.val, hR⟩
  | ret =>
    show LeavesInM _ _ _ _ _ _ a'.defers _ _
    obtain ⟨ρ, _, hv0, ⟨hd, v, hv, hR⟩ | ⟨_, _, D, hd, hK, v, hv, hR⟩⟩ := q
    · rw [hd]; exact ⟨v, hv _ hv0, hR⟩
    · rw [hd]; exact ⟨by simp, .inl ⟨D, _, rfl, run_takeDeferred hK, v, hv _ hv0, hR⟩⟩
  | exit i => obtain ⟨ρ, hI, hf⟩ := q; exact hf.elim
  | goto l => exact q.elim
  | panic c => exact q.elim
  | outgrown => exact q.elim
theorem Kz {P : Program} {f : FuncId} {fn : Func} {c : Code} {args : Array Value} {w : World} {R : Ending → World → Prop} {n : Nat}
    (hf : P.funcs[f]? = some fn) (hb : fn.body = some c) (hn : fn.ntmps = n) (hs : args.size ≤ n)
    (h : gwp P (.plain n) w c (fun ρ w' => ∃ v, resOf P fn ρ w' v ∧ R (.returned v) w') (fun _ _ _ => False) (fun ρ w' => ∃ v, resOf P fn ρ w' v ∧ R (.returned v) w') (envOf args) []) :
    Calls P f args w R := by
  refine callsIn_wide.1 (callsIn_of_wp_marks (F := Fence.wide) (n := 0) hf hb trivial ?_)
  rw [hn]
  exact gleaves (h w (Mem.start w) _ (is_start args n hs))
end Go.Cf
namespace Go.Cf
open Go.RowKit
theorem callsIn_fen (r : Option Nat) {m : Nat} {P : Program} {f : FuncId} {args : Array Value} {w : World} {R : Ending → World → Prop} (h : Calls P f args w R) : CallsIn (fen r) m P f args w R := by
  cases r with
  | none => exact callsIn_wide.2 h
  | some l => exact CallsIn.inRound l (callsIn_wide.2 h)
def lw (n : Fr) (P : Program) (full : Array Oper) (Q : Exit → Act → World → Prop) (l : List Oper) (a : Act) (w : World) : Prop :=
  match n.rd with
  | none => wpList P full Q l a w
  | some r => wpListIn (fen r) 0 P full Q l a w
section
variable {n : Fr} {P : Program} {full : Array Oper} {Q : Exit → Act → World → Prop} {l rest : List Oper} {a : Act} {w : World} {o : Oper}
theorem lw_nil (h : Q .normal a w) : lw n P full Q [] a w := by
  unfold lw; split <;> exact h
theorem lw_region {id : Nat} (h : lw n P l.toArray Q l a w) : cw n P (.region id l.toArray false) Q a w := by
  obtain ⟨k, ds, rd⟩ := n
  cases rd with
  | none => exact wp_region_lit h
  | some r => exact wpIn_region_lit h
theorem no_defer {ρ : Operand → Value} {w' : World} {x : Next} (h : (execOp ρ o).run P w = .ok x w') (hx : ∀ d, x ≠ .defer d) : ∀ c, o.op ≠ .defer c := by
  intro c hc
  have e : execOp ρ o = (do let d ← resolve ρ c o.type; pure (.defer d)) := by unfold execOp; rw [hc]
  rw [e, Sem.run_bind] at h
  cases hr : (resolve ρ c o.type).run P w with
  | ok d w1 => rw [hr] at h; simp [Result.andThen] at h; exact hx d h.1.symm
  | _ => rw [hr] at h; simp [Result.andThen] at h
theorem Zv (hg : o.guard = none) {x : Next} {w' : World} (hr : (execOp a.eval o).run P w = .ok x w') (hx : ∀ d, x ≠ .defer d)
    (h : ∀ K : Act → World → Prop, (∀ a w, lw n P full Q rest a w → K a w) → match x with
      | .value v => K (a.put o.dst v) w'
      | .skip => K (a.put o.dst undef) w'
      | .enter f args => Calls P f args w' fun e w2 => ∃ v, e = .returned v ∧ K (a.put o.dst v) w2
      | _ => False) : lw n P full Q (o :: rest) a w := by
  obtain ⟨k, ds, rd⟩ := n
  cases rd with
  | none =>
    refine wpList_plain hg fun K hK => ?_
    have h1 := h K hK
    unfold Oper.wp
    rw [hr]
    cases x with
    | value v => exact h1
    | skip => exact h1
    | enter f args =>
      rw [Oper.upon_enter]
      refine Calls.mono h1 ?_
      rintro e w' ⟨v, rfl, h⟩
      exact h
    | _ => exact h1.elim
  | some r =>
    refine wpListIn_plain hg fun K hK => ?_
    have h1 := h K hK
    refine ⟨fun f _ => fen_fn r f, ?_⟩
    rw [Oper.semAt_eq _ _ _ (no_defer hr hx), hr]
    cases x with
    | value v => exact h1
    | skip => exact h1
    | enter f args =>
      rw [Oper.uponIn_enter]
      refine ⟨fun h => (by rw [fen_depth] at h; cases h), callsIn_fen r (Calls.mono h1 ?_)⟩
      rintro e w' ⟨v, rfl, h⟩
      exact h
    | _ => exact h1.elim
theorem lw_on (hw : Region.wanted o (yielded full a.tmps) = true) (h : lw n P full Q ({ o with guard := none } :: rest) a w) : lw n P full Q (o :: rest) a w := by
  obtain ⟨k, ds, rd⟩ := n
  cases rd with
  | none =>
    show wpList _ _ _ _ _ _
    have h1 : wpList P full Q ({ o with guard := none } :: rest) a w := h
    unfold wpList at h1 ⊢
    rw [if_pos hw]
    rw [if_pos (by rfl)] at h1
    exact h1
  | some r =>
    show wpListIn _ _ _ _ _ _ _ _
    have h1 : wpListIn (fen r) 0 P full Q ({ o with guard := none } :: rest) a w := h
    unfold wpListIn at h1 ⊢
    rw [if_pos hw]
    rw [if_pos (by rfl)] at h1
    exact h1
theorem lw_off (hw : ¬ Region.wanted o (yielded full a.tmps) = true) (h : lw n P full Q rest (a.put o.dst undef) w) : lw n P full Q (o :: rest) a w := by
  obtain ⟨k, ds, rd⟩ := n
  cases rd with
  | none =>
    show wpList _ _ _ _ _ _
    unfold wpList
    rw [if_neg hw]
    exact h
  | some r =>
    show wpListIn _ _ _ _ _ _ _ _
    unfold wpListIn
    rw [if_neg hw]
    exact ⟨fun _ _ => fen_fn r _, h⟩
end
def owp (P : Program) (n : Fr) (full : Array Oper) (l : List Oper) (N : Env → World → Prop) (ρ : Env) (w : World) : Prop :=
  ∀ a, Is n ρ a → lw n P full (Out n N (fun _ _ _ => False) (fun _ _ => False)) l a w
def gops (P : Program) (n : Fr) (w0 : World) (full : Array Oper) (l : List Oper) (N : Env → World → Prop) (ρ : Env) (T : List Reg) : Prop :=
  ∀ w, Mem w0 T w → owp P n full l N ρ w
def Yield (P : Program) (w0 : World) (T : List Reg) (ρ : Env) (o : Oper) (v : Value) : Prop :=
  ∀ w, Mem w0 T w → (execOp (ev ρ) o).run P w = .ok (.value v) w
def Cell (w0 : World) (T : List Reg) (p : Addr) (v : Value) : Prop := ∀ w, Mem w0 T w → w.cell? p = some v
section
variable {P : Program} {n : Fr} {w0 : World} {N : Env → World → Prop} {X : Nat → Env → World → Prop} {R : Env → World → Prop} {ρ : Env} {T : List Reg}
  {full : Array Oper} {l rest : List Oper} {o : Oper} {v : Value} {d : Nat}
theorem out_more {N : Env → World → Prop} : ∀ (e : Exit) (a : Act) (w : World), Out n N (fun _ _ _ => False) (fun _ _ => False) e a w → Out n N X R e a w := by
  intro e a w q
  cases e with
  | normal => exact q
  | exit i => obtain ⟨_, _, hf⟩ := q; exact hf.elim
  | ret => exact (Ends.none q).elim
  | goto l => exact q
  | panic c => exact q
  | outgrown => exact q
theorem Jk {id : Nat} (h : gops P n w0 l.toArray l N ρ T) : gwp P n w0 (.region id l.toArray false) N X R ρ T :=
  fun w hM a ha => KW (lw_region (h w hM a ha)) out_more
theorem Ja (h : Fin w0 N ρ T) : gops P n w0 full [] N ρ T := fun w hM _ ha => lw_nil ⟨ρ, ha, h w hM⟩
theorem Jd (hy : Yield P w0 T ρ o v) (hg : o.guard = none) (hd : o.dst = some d) (hlt : Nat.blt d n.n = true) (h : gops P n w0 full rest N (upd ρ d v) T) :
    gops P n w0 full (o :: rest) N ρ T := by
  intro w hM a ha
  refine Zv hg (by rw [ha.eval]; exact hy w hM) (by simp) fun K hK => ?_
  show K (a.put o.dst v) w
  rw [hd]
  exact hK _ _ (h w hM _ (ha.put hlt v))
theorem Zl (hrun : ∀ w, Mem w0 T w → ∃ v w', (execOp (ev ρ) o).run P w = .ok (.value v) w' ∧ owp P n full rest N (upd ρ d v) w')
    (hg : o.guard = none) (hd : o.dst = some d) (hlt : Nat.blt d n.n = true) : gops P n w0 full (o :: rest) N ρ T := by
  intro w hM a ha
  obtain ⟨v, w', hr, h⟩ := hrun w hM
  refine Zv hg (by rw [ha.eval]; exact hr) (by simp) fun K hK => ?_
  show K (a.put o.dst v) w'
  rw [hd]
  exact hK _ _ (h _ (ha.put hlt v))
theorem gop_s (hrun : ∀ w, Mem w0 T w → ∃ w', (execOp (ev ρ) o).run P w = .ok .skip w' ∧ owp P n full rest N ρ w')
    (hg : o.guard = none) (hd : o.dst = none) : gops P n w0 full (o :: rest) N ρ T := by
  intro w hM a ha
  obtain ⟨w', hr, h⟩ := hrun w hM
  refine Zv hg (by rw [ha.eval]; exact hr) (by simp) fun K hK => ?_
  show K (a.put o.dst undef) w'
  rw [hd]
  exact hK _ _ (h a ha)
theorem Zz {f : FuncId} {args : Array Value} (he : ∀ w, (execOp (ev ρ) o).run P w = .ok (.enter f args) w)
    (hc : ∀ w, Mem w0 T w → Calls P f args w (fun e w' => ∃ v, e = .returned v ∧ owp P n full rest N (upd ρ d v) w'))
    (hg : o.guard = none) (hd : o.dst = some d) (hlt : Nat.blt d n.n = true) : gops P n w0 full (o :: rest) N ρ T := by
  intro w hM a ha
  refine Zv hg (by rw [ha.eval]; exact he w) (by simp) fun K hK => ?_
  refine Calls.mono (hc w hM) ?_
  rintro e w' ⟨v, rfl, h⟩
  refine ⟨v, rfl, ?_⟩
  rw [hd]
  exact hK _ _ (h _ (ha.put hlt v))
theorem Km {f : FuncId} {args : Array Value} (he : ∀ w, (execOp (ev ρ) o).run P w = .ok (.enter f args) w)
    (hc : ∀ w, Mem w0 T w → Calls P f args w (fun e w' => e = .returned v ∧ Below w.heap.size w w'))
    (hg : o.guard = none) (hd : o.dst = some d) (hlt : Nat.blt d n.n = true) (h : gops P n w0 full rest N (upd ρ d v) T) : gops P n w0 full (o :: rest) N ρ T :=
  Zz he (fun w hM => (hc w hM).mono fun _ w' ⟨he, hb⟩ => ⟨v, he, h w' (hM.call hb)⟩) hg hd hlt
theorem gop_new {f : FuncId} {args : Array Value} (Φ : Nat → World → Value → Prop) (he : ∀ w, (execOp (ev ρ) o).run P w = .ok (.enter f args) w)
    (hc : ∀ w, Mem w0 T w → Calls P f args w (fun e w' => ∃ v, e = .returned v ∧ Below w.heap.size w w' ∧ Φ w.heap.size w' v))
    (hg : o.guard = none) (hd : o.dst = some d) (hlt : Nat.blt d n.n = true)
    (h : ∀ v lo ws, w0.heap.size ≤ lo → Φ lo ws v → gops P n w0 full rest N (upd ρ d v) (T ++ [seal_ lo ws])) : gops P n w0 full (o :: rest) N ρ T :=
  Zz he (fun w hM => (hc w hM).mono fun _ w' ⟨v, he, hb, hΦ⟩ =>
    ⟨v, he, h v w.heap.size w' hM.low.size hΦ w' (hM.add hb (fun _ _ _ => rfl) (fun _ hk => hk))⟩) hg hd hlt
def boolOf : Value → Option Bool
  | .bool b => some b
  | _ => none
theorem Ut {a : Act} (ha : Is n ρ a) {j s : Nat} (hs : (full[j]?).bind (·.dst) = some s) (hlt : Nat.blt s n.n = true) {u : Value} (hv : ρ s = u) :
    yielded full a.tmps j = boolOf u := by
  have hd' : s < a.tmps.size := by rw [ha.size]; exact Nat.le_of_ble_eq_true hlt
  have h1 : a.tmps[s]? = some u := by
    have := ha.val s
    rw [Array.getD_eq_getD_getElem?, Array.getElem?_eq_getElem hd'] at this
    rw [Array.getElem?_eq_getElem hd', ← hv, ← this]; rfl
  unfold yielded
  rw [hs]
  simp only [Option.bind_some, h1]
  cases u <;> rfl
def bare (o : Oper) : Oper := { o with guard := none }
theorem Js {j s : Nat} {b want : Bool} (hgd : o.guard = some (j, want)) (hs : (full[j]?).bind (·.dst) = some s) (hlt : Nat.blt s n.n = true) (hv : ρ s = .bool b) (hb : b = want)
    (h : gops P n w0 full (bare o :: rest) N ρ T) : gops P n w0 full (o :: rest) N ρ T := by
  intro w hM a ha
  have h1 := h w hM a ha
  have hy := Ut (full := full) ha hs hlt hv
  have hw : Region.wanted o (yielded full a.tmps) = true := by
    unfold Region.wanted; rw [hgd]; simp [hy, hb, boolOf]
  exact lw_on hw h1
theorem Jj {j s : Nat} {b want : Bool} (hgd : o.guard = some (j, want)) (hs : (full[j]?).bind (·.dst) = some s) (hlt : Nat.blt s n.n = true) (hv : ρ s = .bool b) (hb : b = !want)
    (hd : o.dst = some d) (hlt' : Nat.blt d n.n = true) (h : gops P n w0 full rest N (upd ρ d undef) T) : gops P n w0 full (o :: rest) N ρ T := by
  intro w hM a ha
  have hy := Ut (full := full) ha hs hlt hv
  have hw : ¬ Region.wanted o (yielded full a.tmps) = true := by
    unfold Region.wanted; rw [hgd]; simp [hy, hb, boolOf]
  refine lw_off hw ?_
  rw [hd]
  exact h w hM _ (ha.put hlt' undef)
theorem Mf {j s : Nat} {want : Bool} (hgd : o.guard = some (j, want)) (hs : (full[j]?).bind (·.dst) = some s) (hlt : Nat.blt s n.n = true) (hv : ρ s = undef)
    (hd : o.dst = some d) (hlt' : Nat.blt d n.n = true) (h : gops P n w0 full rest N (upd ρ d undef) T) : gops P n w0 full (o :: rest) N ρ T := by
  intro w hM a ha
  have hy := Ut (full := full) ha hs hlt hv
  have hw : ¬ Region.wanted o (yielded full a.tmps) = true := by
    unfold Region.wanted; rw [hgd]; simp [hy, undef, boolOf]
  refine lw_off hw ?_
  rw [hd]
  exact h w hM _ (ha.put hlt' undef)
def gqs (P : Program) (n : Fr) (w0 : World) (full : Array Oper) (l : List Oper) (Q : Env → Prop) (ρ : Env) (T : List Reg) : Prop :=
  ∀ a, Is n ρ a → wpQuiet P full (Mem w0 T) (fun a' => ∃ ρ', Is n ρ' a' ∧ Q ρ') l a
theorem Qx {id : Nat} (hm : P.follows .mixedOrders = true) (hB : Region.lexB .any l.toArray = true) (h : gqs P n w0 l.toArray l (fun ρ' => Fin w0 N ρ' T) ρ T) (hrd : n.rd = none := by rfl) :
    gwp P n w0 (.region id l.toArray true) N X R ρ T := by
  intro w hM a ha
  refine cw_of_wp hrd ?_
  refine wp_region_quiet (C := Mem w0 T) hm hB (hM.drew rfl rfl rfl rfl) ?_
  have h1 := h a ha
  have mono : ∀ (full : Array Oper) (l : List Oper) (a : Act), wpQuiet P full (Mem w0 T) (fun a' => ∃ ρ', Is n ρ' a' ∧ Fin w0 N ρ' T) l a → wpQuiet P full (Mem w0 T) (fun a' => ∀ w', Mem w0 T w' → Out n N X R .normal a' w') l a := by
    intro full l
    induction l with
    | nil => intro a ⟨ρ', h1, h2⟩ w' hw'; exact ⟨ρ', h1, h2 w' hw'⟩
    | cons o l ih =>
      intro a h
      unfold wpQuiet at h ⊢
      split
      · rename_i hw; rw [if_pos hw] at h; obtain ⟨v, h1, h2⟩ := h; exact ⟨v, h1, ih _ h2⟩
      · rename_i hw; rw [if_neg hw] at h; exact ih _ h
  have := mono l.toArray l a h1
  simpa using this
theorem Mn {Q : Env → Prop} (h : Q ρ) : gqs P n w0 full [] Q ρ T := fun _ ha => ⟨ρ, ha, h⟩
theorem gq {Q : Env → Prop} (hy : Yield P w0 T ρ o v) (hg : o.guard = none) (hd : o.dst = some d) (hlt : Nat.blt d n.n = true) (h : gqs P n w0 full rest Q (upd ρ d v) T) :
    gqs P n w0 full (o :: rest) Q ρ T := by
  intro a ha
  unfold wpQuiet
  rw [if_pos (by simp [Region.wanted, hg])]
  refine ⟨v, fun w hM => ?_, ?_⟩
  · unfold Oper.quietAt; rw [ha.eval, hy w hM]; exact ⟨rfl, rfl⟩
  · rw [hd]; exact h _ (ha.put hlt v)
theorem Ww {Q : Env → Prop} {f : FuncId} {args : Array Value} (he : ∀ w, (execOp (ev ρ) o).run P w = .ok (.enter f args) w)
    (hc : ∀ w, Mem w0 T w → Calls P f args w (fun e w' => e = .returned v ∧ Below w.heap.size w w'))
    (hg : o.guard = none) (hd : o.dst = some d) (hlt : Nat.blt d n.n = true) (h : gqs P n w0 full rest Q (upd ρ d v) T) : gqs P n w0 full (o :: rest) Q ρ T := by
  intro a ha
  unfold wpQuiet
  rw [if_pos (by simp [Region.wanted, hg])]
  refine ⟨v, fun w hM => ?_, ?_⟩
  · unfold Oper.quietAt; rw [ha.eval, he w]; exact ⟨rfl, (hc w hM).mono fun e w' ⟨h1, h2⟩ => ⟨h1, hM.call h2⟩⟩
  · rw [hd]; exact h _ (ha.put hlt v)
theorem Kp {Q : Env → Prop} {j s : Nat} {b want : Bool} (hgd : o.guard = some (j, want)) (hs : (full[j]?).bind (·.dst) = some s) (hlt : Nat.blt s n.n = true) (hv : ρ s = .bool b) (hb : b = want)
    (h : gqs P n w0 full (bare o :: rest) Q ρ T) : gqs P n w0 full (o :: rest) Q ρ T := by
  intro a ha
  have h1 := h a ha
  have hy := Ut (full := full) ha hs hlt hv
  unfold wpQuiet at h1 ⊢
  have hw : Region.wanted o (yielded full a.tmps) = true := by
    unfold Region.wanted; rw [hgd]; simp [hy, hb, boolOf]
  rw [if_pos hw]
  rw [if_pos (by rfl)] at h1
  exact h1
theorem Kg {Q : Env → Prop} {j s : Nat} {b want : Bool} (hgd : o.guard = some (j, want)) (hs : (full[j]?).bind (·.dst) = some s) (hlt : Nat.blt s n.n = true) (hv : ρ s = .bool b) (hb : b = !want)
    (hd : o.dst = some d) (hlt' : Nat.blt d n.n = true) (h : gqs P n w0 full rest Q (upd ρ d undef) T) : gqs P n w0 full (o :: rest) Q ρ T := by
  intro a ha
  have hy := Ut (full := full) ha hs hlt hv
  unfold wpQuiet
  have hw : ¬ Region.wanted o (yielded full a.tmps) = true := by
    unfold Region.wanted; rw [hgd]; simp [hy, hb, boolOf]
  rw [if_neg hw, hd]
  exact h _ (ha.put hlt' undef)
theorem Qs {Q : Env → Prop} {j s : Nat} {want : Bool} (hgd : o.guard = some (j, want)) (hs : (full[j]?).bind (·.dst) = some s) (hlt : Nat.blt s n.n = true) (hv : ρ s = undef)
    (hd : o.dst = some d) (hlt' : Nat.blt d n.n = true) (h : gqs P n w0 full rest Q (upd ρ d undef) T) : gqs P n w0 full (o :: rest) Q ρ T := by
  intro a ha
  have hy := Ut (full := full) ha hs hlt hv
  unfold wpQuiet
  have hw : ¬ Region.wanted o (yielded full a.tmps) = true := by
    unfold Region.wanted; rw [hgd]; simp [hy, undef, boolOf]
  rw [if_neg hw, hd]
  exact h _ (ha.put hlt' undef)
end
section
variable {w0 : World} {T : List Reg} {p : Addr} {v : Value}
theorem Ms (h : w0.cell? p = some v) : Cell w0 T p v := fun _ hM => (hM.low.cell (World.block_lt_of_cell? w0 p h)).trans h
theorem Jm (i : Nat) {b off : Nat} {cs : Array Value} {e : TypeId} {fz : Nat × Nat} (hi : T[i]? = some (box b (.cells cs e fz))) (h : cs[off]? = some v) : Cell w0 T ⟨b, off, none⟩ v :=
  fun w hM => by
    have : w.heap[b]? = some (.cells cs e fz) := hM.ok _ (List.mem_of_getElem? hi)
    simp [World.cell?, this, h]
theorem cell_seal (i : Nat) {lo : Nat} {ws : World} (hi : T[i]? = some (seal_ lo ws)) (hlo : lo ≤ p.block) (h : ws.cell? p = some v) : Cell w0 T p v :=
  fun w hM => by
    have h1 : ∀ k, lo ≤ k → k < ws.heap.size → w.heap[k]? = ws.heap[k]? := hM.ok _ (List.mem_of_getElem? hi)
    exact (World.cell?_of_block (h1 p.block hlo (World.block_lt_of_cell? ws p h))).trans h
end
end Go.Cf
namespace Go.Cf
open Go.RowKit
def In64 (x : Int) : Prop := -9223372036854775808 ≤ x ∧ x ≤ 9223372036854775807
theorem wrap_in {x : Int} (h : In64 x) : IntKind.i64.wrap x = x := by
  unfold In64 at h
  rw [IntKind.wrap_i64]; omega
section
variable {P : Program} {w0 : World} {T : List Reg} {ρ : Env} {dst : Option Tmp} {ty : TypeId} {pos : String} {af : Array Edge} {gd : Option (Nat × Bool)} {x y z : Operand} {v : Value} {t yt : TypeId}
theorem Je {o : Oper} (h : Yield P w0 T ρ o v) : Yield P w0 T ρ (bare o) v := h
theorem Ju (hx : ev ρ x = v) : Yield P w0 T ρ ⟨dst, .move x, ty, pos, af, gd⟩ v := fun _ _ => by subst hx; rfl
theorem Kx (hx : ev ρ x = v) : Yield P w0 T ρ ⟨dst, .assign x, ty, pos, af, gd⟩ v := fun _ _ => by subst hx; rfl
theorem y_pick_t {b : Bool} (hc : ev ρ x = .bool b) (hb : b = true) (hy : ev ρ y = v) : Yield P w0 T ρ ⟨dst, .pick x y z, ty, pos, af, gd⟩ v := fun _ _ => by
  subst hb; simp [execOp, hc, hy, asBool]
theorem y_pick_f {b : Bool} (hc : ev ρ x = .bool b) (hb : b = false) (hz : ev ρ z = v) : Yield P w0 T ρ ⟨dst, .pick x y z, ty, pos, af, gd⟩ v := fun _ _ => by
  subst hb; simp [execOp, hc, hz, asBool]
theorem Uk {op : BinOp} {vx vy : Value} (hx : ev ρ x = vx) (hy : ev ρ y = vy) (hg : ∀ w, (eqGuard op t x y vx vy).run P w = .ok () w) (hr : ∀ w, (binOp op t vx vy).run P w = .ok v w) :
    Yield P w0 T ρ ⟨dst, .binOp op t x y yt, ty, pos, af, gd⟩ v := fun w _ => by
  subst hx; subst hy; simp [execOp, hg, hr]
section
variable {k : IntKind} {a b : Int} (hx : ev ρ x = .int k a) (hy : ev ρ y = .int k b)
include hx hy
theorem Me : Yield P w0 T ρ ⟨dst, .binOp .lss t x y yt, ty, pos, af, gd⟩ (.bool (decide (a < b))) := fun _ _ => by simp [execOp, go_sem, hx, hy]
theorem Zj : Yield P w0 T ρ ⟨dst, .binOp .leq t x y yt, ty, pos, af, gd⟩ (.bool (decide (a ≤ b))) := fun _ _ => by simp [execOp, go_sem, hx, hy]
theorem Mh : Yield P w0 T ρ ⟨dst, .binOp .gtr t x y yt, ty, pos, af, gd⟩ (.bool (decide (b < a))) := fun _ _ => by simp [execOp, go_sem, hx, hy]
theorem Wj : Yield P w0 T ρ ⟨dst, .binOp .geq t x y yt, ty, pos, af, gd⟩ (.bool (decide (b ≤ a))) := fun _ _ => by simp [execOp, go_sem, hx, hy]
theorem Mc : Yield P w0 T ρ ⟨dst, .binOp .eql t x y yt, ty, pos, af, gd⟩ (.bool (decide (a = b))) := fun _ _ => by
  simp only [execOp, go_sem, hx, hy]; simp; rfl
theorem Uj : Yield P w0 T ρ ⟨dst, .binOp .neq t x y yt, ty, pos, af, gd⟩ (.bool (decide (a ≠ b))) := fun _ _ => by
  simp only [execOp, go_sem, hx, hy]; simp; cases h : decide (a = b) <;> simp_all
end
section
variable {a b : Int} (hx : ev ρ x = .int .i64 a) (hy : ev ρ y = .int .i64 b)
include hx hy
theorem Kr (hr : In64 (a + b)) : Yield P w0 T ρ ⟨dst, .binOp .add t x y yt, ty, pos, af, gd⟩ (.int .i64 (a + b)) := fun _ _ => by
  have h := wrap_in hr
  simp [execOp, go_sem, hx, hy, Op.intArith, h]
theorem Zi (hr : In64 (a - b)) : Yield P w0 T ρ ⟨dst, .binOp .sub t x y yt, ty, pos, af, gd⟩ (.int .i64 (a - b)) := fun _ _ => by
  have h := wrap_in hr
  simp [execOp, go_sem, hx, hy, Op.intArith, h]
theorem y_mul (hr : In64 (a * b)) : Yield P w0 T ρ ⟨dst, .binOp .mul t x y yt, ty, pos, af, gd⟩ (.int .i64 (a * b)) := fun _ _ => by
  have h := wrap_in hr
  simp [execOp, go_sem, hx, hy, Op.intArith, h]
end
theorem Mp {b : Bool} (hx : ev ρ x = .bool b) : Yield P w0 T ρ ⟨dst, .unOp .not t x, ty, pos, af, gd⟩ (.bool (!b)) := fun _ _ => by
  simp [execOp, hx, Op.unary]
theorem Uz {a b : Bool} (hx : ev ρ x = .bool a) (hy : ev ρ y = .bool b) (ht : P.underlying t = some .bool) : Yield P w0 T ρ ⟨dst, .binOp .neq t x y yt, ty, pos, af, gd⟩ (.bool (!(a == b))) := fun w _ => by
  simp only [execOp, go_sem, hx, hy]; simp [run_neq_bool w t a b ht]
theorem Ur {a b : ByteArray} (hx : ev ρ x = .string a) (hy : ev ρ y = .string b) : Yield P w0 T ρ ⟨dst, .binOp .eql t x y yt, ty, pos, af, gd⟩ (.bool (a.toList == b.toList)) := fun _ _ => by
  simp [execOp, go_sem, hx, hy]
theorem Yd {a b : ByteArray} (hx : ev ρ x = .string a) (hy : ev ρ y = .string b) : Yield P w0 T ρ ⟨dst, .binOp .neq t x y yt, ty, pos, af, gd⟩ (.bool !(a.toList == b.toList)) := fun _ _ => by
  simp [execOp, go_sem, hx, hy]
theorem Ks {e : TypeId} {A : Option Addr} {n c : Nat} (ht : P.underlying t = some (.slice e)) (hx : ev ρ x = .slice A n c) :
    Yield P w0 T ρ ⟨dst, .call { callee := .builtin .len, args := #[x], argTypes := #[t] }, ty, pos, af, gd⟩ (.int .i64 n) := fun w _ => by
  have : P.elem t = e := by simp [Program.elem, ht]
  have h := run_len_slice w t ty A n c (by rw [this]; exact ht)
  simp [execOp, resolve, invoke, builtin, hx, h, goInt]
theorem Qt {s : ByteArray} (ht : P.underlying t = some .string) (hx : ev ρ x = .string s) :
    Yield P w0 T ρ ⟨dst, .call { callee := .builtin .len, args := #[x], argTypes := #[t] }, ty, pos, af, gd⟩ (.int .i64 s.size) := fun w _ => by
  have h := run_len_string w t ty s ht
  simp [execOp, resolve, invoke, builtin, hx, h, goInt]
theorem y_fieldAddr {i off : Nat} {p : Addr} (hf : ∀ (a : Addr) (w : World), (Instr.fieldAt t (.pointer (some a)) i).run P w = .ok (.pointer (some (a.add off))) w) (hx : ev ρ x = .pointer (some p)) :
    Yield P w0 T ρ ⟨dst, .fieldAddr t x i, ty, pos, af, gd⟩ (.pointer (some (p.add off))) := fun w _ => by
  simp [execOp, hx, hf]
theorem Jc {i off b o : Nat} (hf : ∀ (a : Addr) (w : World), (Instr.fieldAt t (.pointer (some a)) i).run P w = .ok (.pointer (some (a.add off))) w) (hx : ev ρ x = .pointer (some ⟨b, o, none⟩)) :
    Yield P w0 T ρ ⟨dst, .fieldAddr t x i, ty, pos, af, gd⟩ (.pointer (some ⟨b, o + off, none⟩)) := fun w hM => by
  have h := y_fieldAddr (dst := dst) (ty := ty) (pos := pos) (af := af) (gd := gd) hf hx w hM
  rw [Addr.add_lit] at h; exact h
theorem add_add (a : Addr) (i j : Nat) : (a.add i).add j = a.add (i + j) := by
  unfold Addr.add
  by_cases hi : i = 0 <;> by_cases hj : j = 0 <;> simp [hi, hj, Nat.add_assoc]
theorem block_add (a : Addr) (n : Nat) : (a.add n).block = a.block := by unfold Addr.add; split <;> rfl
theorem Kv {i off m : Nat} {p : Addr} (hf : ∀ (a : Addr) (w : World), (Instr.fieldAt t (.pointer (some a)) i).run P w = .ok (.pointer (some (a.add off))) w) (hx : ev ρ x = .pointer (some (p.add m))) :
    Yield P w0 T ρ ⟨dst, .fieldAddr t x i, ty, pos, af, gd⟩ (.pointer (some (p.add (m + off)))) := fun w hM => by
  have h := y_fieldAddr (dst := dst) (ty := ty) (pos := pos) (af := af) (gd := gd) hf hx w hM
  rw [add_add] at h; exact h
theorem Jz {e : TypeId} {s : Nat} {a : Addr} {len cap m : Nat} {i : Int} (ht : P.underlying t = some (.slice e)) (hs : ∀ w, (sizeOf e).run P w = .ok s w)
    (hx : ev ρ x = .slice (some a) len cap) {k : IntKind} (hi : ev ρ y = .int k i) (hm : i.toNat = m) (h0 : 0 ≤ i) (h1 : i < len) :
    Yield P w0 T ρ ⟨dst, .indexAddr t x y, ty, pos, af, gd⟩ (.pointer (some (a.add (m * s)))) := fun w _ => by
  have : P.elem t = e := by simp [Program.elem, ht]
  have h := run_indexAt_slice w t a len cap k i (by rw [this]; exact ht)
  rw [if_pos ⟨h0, h1⟩, this, hs] at h
  subst hm
  simp [execOp, hx, hi, h]
theorem We {e : TypeId} {s : Nat} {b o len m : Nat} {i : Int} (ht : P.underlying t = some (.array len e)) (hs : ∀ w, (sizeOf e).run P w = .ok s w)
    (hx : ev ρ x = .pointer (some ⟨b, o, none⟩)) {k : IntKind} (hi : ev ρ y = .int k i) (hm : i.toNat = m) (h0 : 0 ≤ i) (h1 : i < len) :
    Yield P w0 T ρ ⟨dst, .indexAddr t x y, ty, pos, af, gd⟩ (.pointer (some ⟨b, o + m * s, none⟩)) := fun w _ => by
  have e1 : P.elem t = e := by simp [Program.elem, ht]
  have e2 : P.arrayLen t = len := by simp [Program.arrayLen, ht]
  have h := run_indexAt_array w t ⟨b, o, none⟩ k i (by rw [e1, e2]; exact ht)
  rw [e2, if_pos ⟨h0, h1⟩, e1, hs] at h
  subst hm
  simp only [execOp, hx, hi, Sem.run_bind, h, Result.andThen_ok, Sem.run_pure, Addr.add_lit]
theorem Jq {p : Addr} (ht : ∀ w, (isAgg t).run P w = .ok false w) (hx : ev ρ x = .pointer (some p)) (hc : Cell w0 T p v) :
    Yield P w0 T ρ ⟨dst, .load t x, ty, pos, af, gd⟩ v := fun w hM => by
  have := hc w hM
  simp [execOp, hx, Instr.loadAt, Instr.sureAddr, loadVar, ht, this]
theorem Kk {p : Addr} {cs : List Value} {m : Nat} (ht : ∀ w, (isAgg t).run P w = .ok true w) (hs : ∀ w, (sizeOf t).run P w = .ok m w) (hl : cs.length = m) (hx : ev ρ x = .pointer (some p))
    (hc : ∀ j u, cs[j]? = some u → Cell w0 T (p.add j) u) : Yield P w0 T ρ ⟨dst, .load t x, ty, pos, af, gd⟩ (.agg cs.toArray) := fun w hM => by
  have h := run_loadCells_list (P := P) w p cs (fun j u hu => hc j u hu w hM)
  subst hl
  simp [execOp, hx, Instr.loadAt, Instr.sureAddr, loadVar, ht, hs, h]
theorem Kf (i : Nat) {b : Nat} {cs : List Value} {e : TypeId} {fz : Nat × Nat} (hi : T[i]? = some (box b (.cells cs.toArray e fz))) :
    ∀ j u, cs[j]? = some u → Cell w0 T ((⟨b, 0, none⟩ : Addr).add j) u := fun j u hu => by
  rw [Addr.add_lit, Nat.zero_add]
  exact Jm i hi (by simpa using hu)
theorem cells_of1 {p : Addr} {c0 : Value} (h0 : Cell w0 T p c0) : ∀ j u, [c0][j]? = some u → Cell w0 T (p.add j) u
  | 0, u, hu => by simp at hu; subst hu; simpa [Addr.add] using h0
  | j + 1, u, hu => by simp at hu
theorem Kd {parts : Array (Nat × Operand)} {vs : List (Nat × Value)} {cells : Array Value} (hp : parts.toList.map (fun q => (q.1, ev ρ q.2)) = vs) (hb : P.built t vs = some cells) :
    Yield P w0 T ρ ⟨dst, .build t parts, ty, pos, af, gd⟩ (.agg cells) := fun w _ => by
  have h := run_build w t (parts.map fun q => (q.1, ev ρ q.2)) cells (by rw [Array.toList_map, hp]; exact hb)
  simp only [execOp, Sem.run_bind]
  have e : (parts.map fun (x : Nat × Operand) => match x with | (i, x) => (i, ev ρ x)) = parts.map fun q => (q.1, ev ρ q.2) := rfl
  rw [e, h]; rfl
theorem Mw {vs : Array Value} {i : Nat} (hx : ev ρ x = .tuple vs) (hi : vs[i]? = some v) : Yield P w0 T ρ ⟨dst, .extract x i, ty, pos, af, gd⟩ v := fun _ _ => by
  simp [execOp, hx, Instr.extract, hi]
end
section
variable {P : Program} {n : Fr} {w0 : World} {N : Env → World → Prop} {ρ : Env} {T : List Reg} {full : Array Oper} {rest : List Oper} {d : Nat} {ty : TypeId} {pos : String} {af : Array Edge} {x y : Operand} {v : Value} {t : TypeId}
theorem mem_box (w : World) (hM : Mem w0 T w) (cs : Array Value) (e : TypeId) : Mem w0 (T ++ [box w.heap.size (.cells cs e)]) (w.alloc (.cells cs e)) :=
  hM.add ((Below.refl _ _).alloc (Nat.le_refl _) _) (heap_alloc_new w _) (fun b hb => by
    have hb' : b = w.heap.size := hb
    subst hb'; simp)
theorem Ka {z : Value} {cs : Array Value} (hz : ∀ w, (zeroValue t).run P w = .ok z w) (hcs : z.cells = cs) (hlt : Nat.blt d n.n = true)
    (h : ∀ b, w0.heap.size ≤ b → gops P n w0 full rest N (upd ρ d (.pointer (some ⟨b, 0, none⟩))) (T ++ [box b (.cells cs t)])) :
    gops P n w0 full (⟨some d, .alloc t, ty, pos, af, none⟩ :: rest) N ρ T :=
  Zl (fun w hM => ⟨.pointer (some ⟨w.heap.size, 0, none⟩), w.alloc (.cells cs t), by
      subst hcs; simp [execOp, Instr.alloc, hz, newVar, newRow], h w.heap.size hM.low.size _ (mem_box w hM cs t)⟩) rfl rfl hlt
theorem Mt {cs : Array Value} (hx : ev ρ x = v) (hcs : v.cells = cs) (hlt : Nat.blt d n.n = true)
    (h : ∀ b, w0.heap.size ≤ b → gops P n w0 full rest N (upd ρ d (.pointer (some ⟨b, 0, none⟩))) (T ++ [box b (.cells cs t)])) :
    gops P n w0 full (⟨some d, .box t x, ty, pos, af, none⟩ :: rest) N ρ T :=
  Zl (fun w hM => ⟨.pointer (some ⟨w.heap.size, 0, none⟩), w.alloc (.cells cs t), by
      subst hcs; subst hx; simp [execOp, Instr.box, newVar, newRow], h w.heap.size hM.low.size _ (mem_box w hM cs t)⟩) rfl rfl hlt
def putAt (cs : Array Value) (off : Nat) : List Value → Array Value
  | [] => cs
  | u :: us => putAt (cs.setIfInBounds off u) (off + 1) us
theorem Zp {b off : Nat} {e : TypeId} : ∀ (us : List Value) (i : Nat) (cs : Array Value) (w : World), w.heap[b]? = some (.cells cs e (0, 0)) → (∀ u ∈ us, u.oneCell' = true) →
    off + i + us.length ≤ cs.size → ∃ w', (storeCells ⟨b, off, none⟩ us i).run P w = .ok () w' ∧ w'.heap[b]? = some (.cells (putAt cs (off + i) us) e (0, 0)) ∧ Chg (fun k => k = b) w w'
  | [], i, cs, w, hb, _, _ => ⟨w, rfl, hb, ⟨rfl, rfl, rfl, Nat.le_refl _, fun _ _ _ => rfl⟩⟩
  | u :: us, i, cs, w, hb, h1, hl => by
    have hl' : off + i < cs.size := by simp at hl; omega
    have hc : w.cell? ⟨b, off + i, none⟩ = some cs[off + i] := by simp [World.cell?, hb, hl']
    have hf : w.frozen? ⟨b, off + i, none⟩ = false := by simp [World.frozen?, hb]
    have hb' : (w.setCell ⟨b, off + i, none⟩ u).heap[b]? = some (.cells (cs.setIfInBounds (off + i) u) e (0, 0)) := by
      simp [World.setCell, Array.getElem?_modify, hb]
    obtain ⟨w', hr, hb2, hc2⟩ := Zp (off := off) us (i + 1) _ _ hb' (fun z hz => h1 z (by simp [hz])) (by simp at hl ⊢; omega)
    refine ⟨w', ?_, hb2, (Chg.setCell w ⟨b, off + i, none⟩ u).trans hc2⟩
    have hst := run_store P w ⟨b, off + i, none⟩ u .plain (h1 u (by simp))
    simp only [storeCells, Sem.run_bind, Addr.add_lit]
    rw [hst]
    simp only [hc, hf]
    simpa using hr
theorem mem_store {i b off : Nat} {cs : Array Value} {e : TypeId} (us : List Value) (w : World) (hM : Mem w0 T w) (hi : T[i]? = some (box b (.cells cs e))) (h1 : ∀ u ∈ us, u.oneCell' = true)
    (hl : off + us.length ≤ cs.size) : ∃ w', (storeCells ⟨b, off, none⟩ us 0).run P w = .ok () w' ∧ Mem w0 (T.set i (box b (.cells (putAt cs off us) e))) w' := by
  have hb : w.heap[b]? = some (.cells cs e (0, 0)) := hM.ok _ (List.mem_of_getElem? hi)
  obtain ⟨w', hr, hb', hc⟩ := Zp (P := P) (off := off) us 0 cs w hb h1 (by omega)
  have hlt : b < w.heap.size := hM.lt _ (List.mem_of_getElem? hi) b rfl
  exact ⟨w', hr, hM.upd hi hc hb' (fun k hk => ⟨.inl hk, by have hk' : k = b := hk; subst hk'; exact Nat.lt_of_lt_of_le hlt hc.size⟩)⟩
theorem Jr (i : Nat) {b off m : Nat} {cs cs' : Array Value} {e : TypeId} {us : List Value} {T' : List Reg} (hx : ev ρ x = .pointer (some ⟨b, off, none⟩)) (hy : ev ρ y = v) (hs : ∀ w, (sizeOf t).run P w = .ok m w) (hv : v.cells.toList = us)
    (hm : us.length = m) (h1 : us.all Value.oneCell' = true) (hi : T[i]? = some (box b (.cells cs e))) (hl : off + m ≤ cs.size) (hcs : putAt cs off us = cs') (hT : T.set i (box b (.cells cs' e)) = T')
    (h : gops P n w0 full rest N ρ T') : gops P n w0 full (⟨none, .store t x y, ty, pos, af, none⟩ :: rest) N ρ T :=
  gop_s (fun w hM => by
    obtain ⟨w', hr, hM'⟩ := mem_store (P := P) (off := off) us w hM hi (by simpa [List.all_eq_true] using h1) (by omega)
    refine ⟨w', ?_, h w' (by subst hcs; subst hT; exact hM')⟩
    have hsz : v.cells.size = m := by rw [← Array.length_toList, hv, hm]
    simp [execOp, hx, hy, Instr.storeAt, Instr.sureAddr, storeVar, hs, hsz, hv, hr]) rfl rfl
end
end Go.Cf
namespace Go.Cf
open Go.RowKit
section
variable {P : Program} {w0 : World} {T : List Reg} {ρ : Env} {dst : Option Tmp} {ty : TypeId} {pos : String} {af : Array Edge} {gd : Option (Nat × Bool)} {x y z : Operand}
theorem Jf {k : IntKind} {a : Int} (h : ev ρ x = .int k a) : Yield P w0 T ρ ⟨dst, .move x, ty, pos, af, gd⟩ (.int k a) := Ju h
theorem Jh {k : IntKind} {a : Int} (h : ev ρ x = .int k a) : Yield P w0 T ρ ⟨dst, .assign x, ty, pos, af, gd⟩ (.int k a) := Kx h
theorem Mg {k : IntKind} {a : Int} {vs : Array Value} {i : Nat} (h : ev ρ x = .tuple vs) (hi : vs[i]? = some (.int k a)) : Yield P w0 T ρ ⟨dst, .extract x i, ty, pos, af, gd⟩ (.int k a) := Mw h hi
theorem Jn {a : Bool} (h : ev ρ x = .bool a) : Yield P w0 T ρ ⟨dst, .move x, ty, pos, af, gd⟩ (.bool a) := Ju h
theorem Ji {a : Bool} (h : ev ρ x = .bool a) : Yield P w0 T ρ ⟨dst, .assign x, ty, pos, af, gd⟩ (.bool a) := Kx h
theorem Mi {a : Bool} {vs : Array Value} {i : Nat} (h : ev ρ x = .tuple vs) (hi : vs[i]? = some (.bool a)) : Yield P w0 T ρ ⟨dst, .extract x i, ty, pos, af, gd⟩ (.bool a) := Mw h hi
theorem Jo {a : Bool} {b : Bool} (hc : ev ρ x = .bool b) (hb : b = true) (h : ev ρ y = .bool a) : Yield P w0 T ρ ⟨dst, .pick x y z, ty, pos, af, gd⟩ (.bool a) := y_pick_t hc hb h
theorem Jp {a : Bool} {b : Bool} (hc : ev ρ x = .bool b) (hb : b = false) (h : ev ρ z = .bool a) : Yield P w0 T ρ ⟨dst, .pick x y z, ty, pos, af, gd⟩ (.bool a) := y_pick_f hc hb h
theorem Ku {a : ByteArray} (h : ev ρ x = .string a) : Yield P w0 T ρ ⟨dst, .move x, ty, pos, af, gd⟩ (.string a) := Ju h
theorem Ul {a : ByteArray} (h : ev ρ x = .string a) : Yield P w0 T ρ ⟨dst, .assign x, ty, pos, af, gd⟩ (.string a) := Kx h
theorem Kl {a : Option Addr} {m k : Nat} (h : ev ρ x = .slice a m k) : Yield P w0 T ρ ⟨dst, .move x, ty, pos, af, gd⟩ (.slice a m k) := Ju h
theorem Kq {a : Option Addr} {m k : Nat} (h : ev ρ x = .slice a m k) : Yield P w0 T ρ ⟨dst, .assign x, ty, pos, af, gd⟩ (.slice a m k) := Kx h
theorem Qz {a : Option Addr} {m k : Nat} {vs : Array Value} {i : Nat} (h : ev ρ x = .tuple vs) (hi : vs[i]? = some (.slice a m k)) : Yield P w0 T ρ ⟨dst, .extract x i, ty, pos, af, gd⟩ (.slice a m k) := Mw h hi
end
end Go.Cf
namespace Go.Cf
open Go.RowKit
def Rdl {α : Type} (w : World) (lo size : Nat) (f : α → List Value) (A : Option Addr) (l : List α) : Prop :=
  0 < l.length → ∃ ad, A = some ad ∧ lo ≤ ad.block ∧ ∀ k x, l[k]? = some x → ∀ j u, (f x)[j]? = some u → w.cell? (ad.add (k * size + j)) = some u
section
variable {α : Type} {w w' w0 : World} {lo size : Nat} {f : α → List Value} {A : Option Addr} {l : List α} {T : List Reg}
theorem Rdl.nil : Rdl w lo size f A ([] : List α) := fun h => absurd h (by simp)
theorem Rdl.keep (h : Rdl w lo size f A l) (hk : ∀ p : Addr, lo ≤ p.block → p.block < w.heap.size → w'.cell? p = w.cell? p) : Rdl w' lo size f A l := fun hn => by
  obtain ⟨ad, e, hb, hc⟩ := h hn
  refine ⟨ad, e, hb, fun k x hx j u hu => ?_⟩
  have := hc k x hx j u hu
  exact (hk _ (by rw [block_add]; exact hb) (World.block_lt_of_cell? w _ this)).trans this
theorem Rdl.below (h : Rdl w lo size f A l) (hb : Below w.heap.size w w') : Rdl w' lo size f A l := h.keep fun _ _ hp => hb.cell hp
theorem Rdl.mono {lo' : Nat} (h : Rdl w lo size f A l) (hl : lo' ≤ lo) : Rdl w lo' size f A l := fun hn => by
  obtain ⟨ad, e, hb, hc⟩ := h hn
  exact ⟨ad, e, Nat.le_trans hl hb, hc⟩
theorem Rdl.base (h : Rdl w0 lo size f A l) (hM : Mem w0 T w) : Rdl w lo size f A l := h.keep fun _ _ hp => hM.low.cell hp
theorem Rdl.seal_ (i : Nat) {ws : World} {lo1 : Nat} (hi : T[i]? = some (seal_ lo1 ws)) (h : Rdl ws lo size f A l) (hlo : lo1 ≤ lo) (hM : Mem w0 T w) : Rdl w lo size f A l :=
  h.keep fun p h1 h2 => by
    have h3 : ∀ k, lo1 ≤ k → k < ws.heap.size → w.heap[k]? = ws.heap[k]? := hM.ok _ (List.mem_of_getElem? hi)
    exact World.cell?_of_block (h3 p.block (Nat.le_trans hlo h1) h2)
theorem Rdl.at_ {k : Nat} (h : Rdl w lo size f A l) (hk : k < l.length) : ∃ ad, A = some ad ∧ lo ≤ ad.block ∧ ∀ j u, (f l[k])[j]? = some u → w.cell? (ad.add (k * size + j)) = some u := by
  obtain ⟨ad, e, hb, hc⟩ := h (by omega)
  exact ⟨ad, e, hb, hc k l[k] (List.getElem?_eq_getElem hk)⟩
end
theorem Mv {w0 : World} {T : List Reg} {ad : Addr} {m : Nat} {cs : List Value} (h : ∀ j u, cs[j]? = some u → w0.cell? (ad.add (m + j)) = some u) :
    ∀ j u, cs[j]? = some u → Cell w0 T ((ad.add m).add j) u := fun j u hu => by rw [add_add]; exact Ms (h j u hu)
end Go.Cf
namespace Go.Cf
open Go.RowKit
def rowl {α : Type} (f : α → List Value) (base : Nat) (e : TypeId) (size : Nat) (v : Value) (l : List α) : Reg := row base e size v l.length (l.flatMap f)
def Src (w : World) (size : Nat) (A : Option Addr) (m : Nat) (news : List Value) : Prop :=
  news.length = m * size ∧ (0 < m → ∃ ad, A = some ad ∧ ∀ j u, news[j]? = some u → w.cell? (ad.add j) = some u)
def Wide {α : Type} (f : α → List Value) (size : Nat) : Prop := ∀ x, (f x).length = size ∧ ∀ u ∈ f x, u.oneCell' = true
theorem Qb {α : Type} {f : α → List Value} {size : Nat} (hf : ∀ x, (f x).length = size) : ∀ l : List α, (l.flatMap f).length = l.length * size
  | [] => by simp
  | x :: l => by simp only [List.flatMap_cons, List.length_append, List.length_cons, Qb hf l, hf x, Nat.add_mul]; omega
theorem flat_at {α : Type} {f : α → List Value} {size : Nat} (hf : ∀ x, (f x).length = size) : ∀ (l : List α) (k : Nat) (x : α), l[k]? = some x → ∀ j u, (f x)[j]? = some u → (l.flatMap f)[k * size + j]? = some u
  | [], _, _, h, _, _, _ => by simp at h
  | y :: l, 0, x, h, j, u, hu => by
    simp at h; subst h
    rw [List.flatMap_cons, Nat.zero_mul, Nat.zero_add, List.getElem?_append_left]
    · exact hu
    · rcases Nat.lt_or_ge j (f y).length with h1 | h1
      · exact h1
      · rw [List.getElem?_eq_none h1] at hu; cases hu
  | y :: l, k + 1, x, h, j, u, hu => by
    simp at h
    rw [List.flatMap_cons, List.getElem?_append_right (by rw [hf]; rw [Nat.add_mul]; omega), hf]
    have := flat_at hf l k x h j u hu
    rw [← this]; congr 1; rw [Nat.add_mul]; omega
theorem flat_inv {α : Type} {f : α → List Value} {size : Nat} (hf : ∀ x, (f x).length = size) : ∀ (l : List α) (i : Nat) (u : Value), (l.flatMap f)[i]? = some u → 0 < size ∧ ∃ k x j, l[k]? = some x ∧ (f x)[j]? = some u ∧ i = k * size + j
  | [], i, u, h => by simp at h
  | y :: l, i, u, h => by
    rw [List.flatMap_cons] at h
    rcases Nat.lt_or_ge i (f y).length with h1 | h1
    · rw [List.getElem?_append_left h1] at h
      exact ⟨by rw [← hf y]; omega, 0, y, i, rfl, h, by simp⟩
    · rw [List.getElem?_append_right h1, hf] at h
      obtain ⟨hp, k, x, j, hk, hu, he⟩ := flat_inv hf l _ u h
      rw [hf] at h1
      exact ⟨hp, k + 1, x, j, by simpa using hk, hu, by rw [Nat.add_mul]; omega⟩
theorem Rdl.src {α : Type} {w : World} {lo size : Nat} {f : α → List Value} {A : Option Addr} {l : List α} (h : Rdl w lo size f A l) (hf : ∀ x, (f x).length = size) : Src w size A l.length (l.flatMap f) :=
  ⟨Qb hf l, fun hn => by
    obtain ⟨ad, e, _, hc⟩ := h hn
    refine ⟨ad, e, fun i u hu => ?_⟩
    obtain ⟨_, k, x, j, hk, hj, rfl⟩ := flat_inv hf l i u hu
    exact hc k x hk j u hj⟩
theorem Rdl.of_own {α : Type} {w : World} {base size n c : Nat} {e : TypeId} {f : α → List Value} {A : Option Addr} {l : List α} (hf : ∀ x, (f x).length = size) (h : w.ownsRow base e size (.slice A n c) l.length (l.flatMap f)) : Rdl w base size f A l := fun hn => by
  rcases h.2 with ⟨_, h2⟩ | ⟨g, cap, cur, hv, hb, hw⟩
  · omega
  · simp only [Value.slice.injEq] at hv
    obtain ⟨rfl, rfl, rfl⟩ := hv
    refine ⟨⟨g, 0, none⟩, rfl, hb, fun k x hx j u hu => ?_⟩
    exact h.cells (g := g) rfl _ u (flat_at hf l k x hx j u hu)
theorem Ug {w : World} {base size n : Nat} {e : TypeId} {v : Value} {xs : List Value} (h : w.ownsRow base e size v n xs) : ∃ A c, v = .slice A n c ∧ n ≤ c ∧ c ≤ maxLen := by
  rcases h.2 with ⟨rfl, rfl⟩ | ⟨g, cap, cur, rfl, _, _, h4, h5, _⟩
  · exact ⟨none, 0, rfl, Nat.le_refl _, by unfold maxLen; omega⟩
  · exact ⟨_, _, rfl, h4, h5⟩
theorem Mem.own {α : Type} {w0 w : World} {T : List Reg} (i : Nat) {base size : Nat} {e : TypeId} {f : α → List Value} {v : Value} {l : List α} (hM : Mem w0 T w) (hi : T[i]? = some (rowl f base e size v l)) : w.ownsRow base e size v l.length (l.flatMap f) :=
  hM.ok _ (List.mem_of_getElem? hi)
def NewL {α : Type} (size : Nat) (f : α → List Value) (l : List α) (lo : Nat) (w : World) (v : Value) : Prop := ∃ A c, v = .slice A l.length c ∧ l.length ≤ c ∧ c ≤ maxLen ∧ Rdl w lo size f A l
theorem Mem.newL {α : Type} {w0 w : World} {T : List Reg} (i : Nat) {base size : Nat} {e : TypeId} {f : α → List Value} {v : Value} {l : List α} (hM : Mem w0 T w) (hi : T[i]? = some (rowl f base e size v l)) (hf : ∀ x, (f x).length = size) : NewL size f l base w v := by
  have h := hM.own i hi
  obtain ⟨A, c, rfl, h1, h2⟩ := Ug h
  exact ⟨A, c, rfl, h1, h2, Rdl.of_own hf h⟩
theorem Wd {α : Type} {size : Nat} {f : α → List Value} {lo : Nat} {w : World} : NewL size f ([] : List α) lo w (.slice none 0 0) := ⟨none, 0, rfl, Nat.le_refl _, by unfold maxLen; omega, Rdl.nil⟩
section
variable {P : Program} {n : Fr} {w0 : World} {N : Env → World → Prop} {X : Nat → Env → World → Prop} {R : Env → World → Prop} {ρ : Env} {T : List Reg} {full : Array Oper} {rest : List Oper} {d : Nat} {ty : TypeId} {pos : String} {af : Array Edge} {x y : Operand} {v : Value} {t : TypeId}
theorem Qa {α : Type} (f : α → List Value) (e : TypeId) (size : Nat) {w : World} (hM : Mem w0 T w) : Mem w0 (T ++ [rowl f w0.heap.size e size (.slice none 0 0) []]) w :=
  hM.add (Below.refl _ _) (World.ownsRow_nil w _ e size) (fun b hb => by cases hb)
theorem Xw {α : Type} (f : α → List Value) (e : TypeId) (size : Nat) {c : Code} (h : gwp P n w0 c N X R ρ (T ++ [rowl f w0.heap.size e size (.slice none 0 0) []])) : gwp P n w0 c N X R ρ T :=
  fun w hM => h w (Qa f e size hM)
theorem run_append_src {w : World} {base : Nat} {ty e : TypeId} {i : TypeInfo} {z : Value} {size bytes : Nat} (ht : P.underlying t = some (.slice e)) (hi : P.info? e = some i) (hz : i.zero = some z)
    (hsize : i.size = size) (hby : i.bytes = bytes) (hzs : z.cells.size = size) (hsz : 0 < size) {v : Value} {n : Nat} {xs : List Value} (hown : w.ownsRow base e size v n xs)
    {A : Option Addr} {m c : Nat} {news : List Value} (hs : Src w size A m news) (h1 : ∀ u ∈ news, u.oneCell' = true) (hA : A = none → c = 0)
    (h63 : n + m ≤ maxLen) (hbytes : (n + m) * bytes ≤ 140737488355328) (hbase : base ≤ w.heap.size) :
    ∃ v' w', (Builtin.append_ #[t, t] ty #[v, .slice A m c]).run P w = .ok v' w' ∧ w'.ownsRow base e size v' (n + m) (xs ++ news) ∧ w.grownBy w' v.ownBlock ∧ (v'.ownBlock = v.ownBlock ∨ v'.ownBlock = some w.heap.size) := by
  cases A with
  | none =>
    have hm : m = 0 := by
      rcases Nat.eq_zero_or_pos m with h0 | h0
      · exact h0
      · obtain ⟨ad, h, _⟩ := hs.2 h0; cases h
    subst hm
    have hn : news = [] := List.eq_nil_of_length_eq_zero (by simpa using hs.1)
    subst hn
    have hc := hA rfl
    subst hc
    exact ⟨v, w, run_append_owned_none w base t ty e i size ht hi v n xs hown, by simpa using hown, ⟨rfl, rfl, rfl, Nat.le_refl _, fun _ _ _ => rfl⟩, .inl rfl⟩
  | some ad =>
    have hcells : ∀ j u, news[j]? = some u → w.cell? (ad.add j) = some u := by
      intro j u hu
      rcases Nat.eq_zero_or_pos m with h0 | h0
      · subst h0
        have hn : news = [] := List.eq_nil_of_length_eq_zero (by simpa using hs.1)
        subst hn
        simp at hu
      · obtain ⟨ad', h, hc⟩ := hs.2 h0
        injection h with h
        subst h
        exact hc j u hu
    obtain ⟨v', w', hrun, h2, h3, _, h5⟩ := run_append_own_at (P := P) w base t ty e i z size bytes ht hi hz hsize hby hzs hsz v n xs hown ad m c news hs.1 hcells h1 h63 hbytes hbase
    exact ⟨v', w', hrun, h2, h3, h5⟩
def Elem (P : Program) (e : TypeId) (size bytes : Nat) : Prop := ∃ i z, P.info? e = some i ∧ i.zero = some z ∧ i.size = size ∧ i.bytes = bytes ∧ z.cells.size = size ∧ 0 < size
theorem Xz {e : TypeId} {size bytes : Nat} {z : Value} (h : (P.info? e).map (fun i => (i.zero, i.size, i.bytes)) = some (some z, size, bytes)) (hz : z.cells.size = size) (hp : 0 < size) : Elem P e size bytes := by
  cases hi : P.info? e with
  | none => rw [hi] at h; cases h
  | some i =>
    rw [hi] at h
    simp only [Option.map_some, Option.some.injEq, Prod.mk.injEq] at h
    exact ⟨i, z, hi, h.1, h.2.1, h.2.2, hz, hp⟩
theorem mem_append {α : Type} {f : α → List Value} {size bytes : Nat} {e ty : TypeId} (i : Nat) (ht : P.underlying t = some (.slice e)) (he : Elem P e size bytes) (hf : Wide f size) {v : Value} {l l2 : List α}
    (hi : T[i]? = some (rowl f w0.heap.size e size v l)) {A : Option Addr} {m c : Nat} (hm : m = l2.length) (hA : A = none → c = 0)
    (h63 : l.length + l2.length ≤ maxLen) (hbytes : (l.length + l2.length) * bytes ≤ 140737488355328) (w : World) (hM : Mem w0 T w) (hs : Src w size A l2.length (l2.flatMap f)) :
    ∃ v' w', (Builtin.append_ #[t, t] ty #[v, .slice A m c]).run P w = .ok v' w' ∧ Mem w0 (T.set i (rowl f w0.heap.size e size v' (l ++ l2))) w' := by
  obtain ⟨ii, z, h1, h2, h3, h4, h5, h6⟩ := he
  have hown := hM.own i hi
  subst hm
  have hone : ∀ u ∈ l2.flatMap f, u.oneCell' = true := fun u hu => by
    obtain ⟨x, _, hx⟩ := List.mem_flatMap.1 hu; exact (hf x).2 u hx
  obtain ⟨v', w', hr, ho, hg, hb⟩ := run_append_src (P := P) (ty := ty) ht h1 h2 h3 h4 h5 h6 hown hs hone hA h63 hbytes hM.low.size
  refine ⟨v', w', hr, hM.upd hi (Chg.of_grownBy hg) ?_ ?_⟩
  · show w'.ownsRow _ _ _ _ (l ++ l2).length ((l ++ l2).flatMap f)
    rw [List.length_append, List.flatMap_append]; exact ho
  · intro b hbb
    have hbb' : v'.ownBlock = some b := hbb
    have hlt := (World.ownsRow.lt ho b hbb').2
    refine ⟨?_, hlt⟩
    rcases hb with hb | hb
    · left; show v.ownBlock = some b; rw [← hb]; exact hbb'
    · right; rw [hb] at hbb'; injection hbb' with hbb'; omega
theorem Qj {α : Type} {f : α → List Value} {size bytes : Nat} {e : TypeId} (i : Nat) (ht : P.underlying t = some (.slice e)) (he : Elem P e size bytes) (hf : Wide f size) {v : Value} {l l2 : List α} {A : Option Addr} {m c : Nat}
    (hx : ev ρ x = v) (hy : ev ρ y = .slice A m c) (hi : T[i]? = some (rowl f w0.heap.size e size v l)) (hm : m = l2.length) (hA : A = none → c = 0)
    (h63 : l.length + l2.length ≤ maxLen) (hbytes : (l.length + l2.length) * bytes ≤ 140737488355328) (hs : ∀ w, Mem w0 T w → Src w size A l2.length (l2.flatMap f)) (hlt : Nat.blt d n.n = true)
    (h : ∀ v', gops P n w0 full rest N (upd ρ d v') (T.set i (rowl f w0.heap.size e size v' (l ++ l2)))) :
    gops P n w0 full (⟨some d, .call { callee := .builtin .append, args := #[x, y], argTypes := #[t, t] }, ty, pos, af, none⟩ :: rest) N ρ T :=
  Zl (fun w hM => by
    obtain ⟨v', w', hr, hM'⟩ := mem_append (P := P) (ty := ty) i ht he hf hi hm hA h63 hbytes w hM (hs w hM)
    refine ⟨v', w', ?_, h v' w' hM'⟩
    simp only [execOp, resolve, invoke, builtin, Sem.run_bind, Sem.run_pure, Result.andThen_ok, List.map_toArray, List.map_cons, List.map_nil, hx, hy, hr]) rfl rfl hlt
theorem Wp (i : Nat) {b m size : Nat} {cs : List Value} {e : TypeId} (hi : T[i]? = some (box b (.cells cs.toArray e))) (hl : cs.length = m * size) : ∀ w, Mem w0 T w → Src w size (some ⟨b, 0, none⟩) m cs :=
  fun w hM => ⟨hl, fun _ => ⟨_, rfl, fun j u hu => Kf i hi j u hu w hM⟩⟩
theorem Zy {α : Type} {f : α → List Value} {size bytes : Nat} {e : TypeId} (a0 : α) {z : Value} (ht : P.underlying t = some (.slice e)) (hinfo : (P.info? e).map (fun i => (i.zero, i.size, i.bytes)) = some (some z, 1, bytes)) (hz : f a0 = [z]) (hzz : z.cells = #[z]) (hsz : size = 1) {k : Nat}
    (hx : ev ρ x = .int .i64 (k : Int)) (hy : ev ρ y = .int .i64 (k : Int)) (hb : bytes * k ≤ 281474976710656) (h63 : k ≤ maxLen) (hlt : Nat.blt d n.n = true)
    (h : ∀ b, w0.heap.size ≤ b → gops P n w0 full rest N (upd ρ d (.slice (some ⟨b, 0, none⟩) k k)) (T ++ [rowl f w0.heap.size e size (.slice (some ⟨b, 0, none⟩) k k) (List.replicate k a0)])) :
    gops P n w0 full (⟨some d, .makeSlice t x y, ty, pos, af, none⟩ :: rest) N ρ T :=
  Zl (fun w hM => by
    subst hsz
    cases hi : P.info? e with
    | none => rw [hi] at hinfo; cases hinfo
    | some i =>
      rw [hi] at hinfo
      simp only [Option.map_some, Option.some.injEq, Prod.mk.injEq] at hinfo
      obtain ⟨i1, i2, i3⟩ := hinfo
      obtain ⟨w', hr, ho, hg⟩ := run_make_full (P := P) w w0.heap.size t e i z 1 ht hi i1 i2 .i64 .i64 k (by rw [i3]; exact hb) h63 hM.low.size
      refine ⟨_, w', by simp [execOp, hx, hy, hr], h w.heap.size hM.low.size w' (hM.add ⟨hg.os, hg.tape, hg.output, hg.size, fun j hj => hg.block j hj (by simp)⟩ ?_ ?_)⟩
      · show w'.ownsRow _ _ _ _ (List.replicate k a0).length ((List.replicate k a0).flatMap f)
        have e1 : (List.replicate k a0).flatMap f = (madeCells z.cells (k * 1)).toList := by
          rw [hzz, Nat.mul_one, toList_madeCells_one]
          clear hr ho hg hb h63 hx hy h
          induction k with
          | zero => rfl
          | succ k ih => rw [List.replicate_succ, List.flatMap_cons, hz, ih, List.replicate_succ]; rfl
        rw [List.length_replicate, e1]
        exact ho
      · intro b hbb
        have hbb' : some w.heap.size = some b := hbb
        injection hbb' with hbb'
        subst hbb'
        exact ⟨Nat.le_refl _, (World.ownsRow.lt ho _ rfl).2⟩) rfl rfl hlt
end
section
variable {P : Program} {ρ : Env} {dst : Option Tmp} {ty : TypeId} {pos : String} {af : Array Edge} {gd : Option (Nat × Bool)} {x : Operand}
theorem Kb {f : FuncId} {fn : Func} {args : Array Operand} {ats : Array TypeId} {vs : List Value} (hf : P.funcs[f]? = some fn) (hb : fn.body.isSome = true) (hnm : (fn.name == "runtime.NumGoroutine") = false) (ha : args.toList.map (ev ρ) = vs) (w : World) :
    (execOp (ev ρ) ⟨dst, .call { callee := .value (.func f), args := args, argTypes := ats }, ty, pos, af, gd⟩).run P w = .ok (.enter f vs.toArray) w := by
  have e : args.map (ev ρ) = vs.toArray := by rw [← ha, ← Array.toList_map, Array.toArray_toList]
  obtain ⟨c, hc⟩ := Option.isSome_iff_exists.1 hb
  have hnm' : ¬ fn.name = "runtime.NumGoroutine" := by simpa using hnm
  simp [execOp, resolve, Deferred.ofValue, ev, invoke, callFunc, e, hf, hc, hnm']
end
end Go.Cf
namespace Go.Cf
open Go.RowKit
def Weak (w0 : World) (T TS : List Reg) : Prop := ∀ w, Mem w0 T w → Mem w0 TS w
theorem Kc {w0 : World} {T : List Reg} : Weak w0 T T := fun _ h => h
theorem Kj {w0 : World} {T : List Reg} (i : Nat) {b m : Nat} {e : TypeId} {cs : Array Value} (hi : T[i]? = some (box b (.cells cs e))) (hm : cs.size = m) : Weak w0 T (T.set i (room b e m)) := fun w hM => by
  have hb : w.heap[b]? = some (.cells cs e (0, 0)) := hM.ok _ (List.mem_of_getElem? hi)
  exact hM.upd hi (Chg.of_below (Below.refl _ _)) ⟨cs, hm, hb⟩ (fun k hk => ⟨.inl hk, hM.lt _ (List.mem_of_getElem? hi) k hk⟩)
theorem Mb {w0 : World} {A B C : List Reg} (h : Weak w0 A B) (k : Weak w0 B C) : Weak w0 A C := fun w hM => k w (h w hM)
section
variable {P : Program} {n : Fr} {w0 : World} {N : Env → World → Prop} {X : Nat → Env → World → Prop} {R : Env → World → Prop} {ρ : Env} {T TS : List Reg}
  {full : Array Oper} {l : List Oper} {o : Oper} {v : Value} {d k : Nat} {listed listed' : Array Bool}
variable {ty t : TypeId} {pos : String} {af : Array Edge} {gd : Option (Nat × Bool)} {x y : Operand} {dst : Option Tmp}
theorem Jy {p : Addr} (hx : ev ρ x = .pointer (some p)) : Yield P w0 T ρ ⟨dst, .nilCheck x, ty, pos, af, gd⟩ (.pointer (some p)) := fun w _ => by simp [execOp, hx]
theorem run_bslice {e : TypeId} {len s : Nat} {parts : Array (Nat × Operand)} {vs : List (Nat × Value)} {cells : Array Value} {z : Value} (ht : P.underlying t = some (.slice e)) (hs : ∀ w, (sizeOf e).run P w = .ok s w)
    (hz : ∀ w, (zeroValue e).run P w = .ok z w) (hp : parts.toList.map (fun q => (q.1, ev ρ q.2)) = vs) (hsm : len * s ≤ 2 ^ 24) (hpos : len * s ≠ 0)
    (hfill : Instr.fill (fun i => some (i * s, s)) ((Array.range (len * s)).map (z.cells[· % z.cells.size]!)) vs = some cells) (w : World) :
    (execOp (ev ρ) ⟨dst, .buildSlice t len parts, ty, pos, af, gd⟩).run P w = .ok (.value (.slice (some ⟨w.heap.size, 0, none⟩) len len)) (w.alloc (.cells cells e)) := by
  have e1 : (parts.map fun (x : Nat × Operand) => match x with | (i, x) => (i, ev ρ x)).toList = vs := by rw [Array.toList_map, ← hp]
  have h24 : ¬ (2 : Nat) ^ 24 < len * s := by omega
  simp only [execOp, Instr.buildSlice, Sem.run_bind, run_underlying ht, Result.andThen_ok, hs]
  simp only [gt_iff_lt, if_neg h24, if_neg hpos, Sem.run_bind, hz, Result.andThen_ok, Sem.run_pure, e1, hfill, newRow, run_newObj]
  rfl
theorem gop_bslice {rest : List Oper} {e : TypeId} {len s : Nat} {parts : Array (Nat × Operand)} {vs : List (Nat × Value)} {cells : Array Value} {z : Value} (ht : P.underlying t = some (.slice e)) (hs : ∀ w, (sizeOf e).run P w = .ok s w)
    (hz : ∀ w, (zeroValue e).run P w = .ok z w) (hp : parts.toList.map (fun q => (q.1, ev ρ q.2)) = vs) (hsm : len * s ≤ 2 ^ 24) (hpos : len * s ≠ 0)
    (hfill : Instr.fill (fun i => some (i * s, s)) ((Array.range (len * s)).map (z.cells[· % z.cells.size]!)) vs = some cells) (hlt : Nat.blt d n.n = true)
    (h : ∀ b, w0.heap.size ≤ b → gops P n w0 full rest N (upd ρ d (.slice (some ⟨b, 0, none⟩) len len)) (T ++ [box b (.cells cells e)])) :
    gops P n w0 full (⟨some d, .buildSlice t len parts, ty, pos, af, none⟩ :: rest) N ρ T :=
  Zl (fun w hM => ⟨_, _, run_bslice ht hs hz hp hsm hpos hfill w, h w.heap.size hM.low.size _ (mem_box w hM cells e)⟩) rfl rfl hlt
theorem y_slice {e : TypeId} {s : Nat} {A : Option Addr} {len cap : Nat} {lo hi : Int} {kl kh : IntKind} {y z : Operand} (ht : P.underlying t = some (.slice e)) (hs : ∀ w, (sizeOf e).run P w = .ok s w)
    (hx : ev ρ x = .slice A len cap) (hy : ev ρ y = .int kl lo) (hz : ev ρ z = .int kh hi) (h0 : 0 ≤ lo) (h1 : lo ≤ hi) (h2 : hi ≤ cap) :
    Yield P w0 T ρ ⟨dst, .slice t x (some y) (some z) none, ty, pos, af, gd⟩ (sliced A lo.toNat hi.toNat cap s) := fun w _ => by
  have he : P.elem t = e := by simp [Program.elem, ht]
  have h := run_slice_lh (P := P) w t A len cap (by rw [he]; exact ht) kl kh lo hi h0 h1 h2
  have h' := run_sliceAt_slice (P := P) w t (.slice A len cap) (some (.int kl lo)) (some (.int kh hi)) none (by rw [he]; exact ht)
  rw [he, hs] at h
  simp [execOp, hx, hy, hz, h', h]
theorem QM {e : TypeId} {s : Nat} {A : Option Addr} {len cap : Nat} {lo : Int} {kl : IntKind} {y : Operand} (ht : P.underlying t = some (.slice e)) (hs : ∀ w, (sizeOf e).run P w = .ok s w)
    (hx : ev ρ x = .slice A len cap) (hy : ev ρ y = .int kl lo) (h0 : 0 ≤ lo) (h1 : lo ≤ len) :
    Yield P w0 T ρ ⟨dst, .slice t x (some y) none none, ty, pos, af, gd⟩ (sliced A lo.toNat len cap s) := fun w _ => by
  have he : P.elem t = e := by simp [Program.elem, ht]
  have h := run_slice_l (P := P) w t A len cap (by rw [he]; exact ht) kl lo h0 h1
  have h' := run_sliceAt_slice (P := P) w t (.slice A len cap) (some (.int kl lo)) none none (by rw [he]; exact ht)
  rw [he, hs] at h
  simp [execOp, hx, hy, h', h]
theorem y_slice_hi {e : TypeId} {s : Nat} {A : Option Addr} {len cap : Nat} {hi : Int} {kh : IntKind} {z : Operand} (ht : P.underlying t = some (.slice e)) (hs : ∀ w, (sizeOf e).run P w = .ok s w)
    (hx : ev ρ x = .slice A len cap) (hz : ev ρ z = .int kh hi) (h0 : 0 ≤ hi) (h2 : hi ≤ cap) :
    Yield P w0 T ρ ⟨dst, .slice t x none (some z) none, ty, pos, af, gd⟩ (sliced A 0 hi.toNat cap s) := fun w _ => by
  have he : P.elem t = e := by simp [Program.elem, ht]
  have h := run_slice_h (P := P) w t A len cap (by rw [he]; exact ht) kh hi h0 h2
  have h' := run_sliceAt_slice (P := P) w t (.slice A len cap) none (some (.int kh hi)) none (by rw [he]; exact ht)
  rw [he, hs] at h
  simp [execOp, hx, hz, h', h]
end
theorem Rdl.cut {α : Type} {w : World} {lo size : Nat} {f : α → List Value} {A : Option Addr} {l : List α} (h : Rdl w lo size f A l) {i j cap : Nat} (hij : i ≤ j) (hj : j ≤ l.length) (hc : l.length ≤ cap) :
    Rdl w lo size f (if cap = i then A else A.map (·.add (i * size))) ((l.drop i).take (j - i)) := fun hn => by
  have hn' : i < j := by simp at hn; omega
  obtain ⟨ad, rfl, hb, hcell⟩ := h (by omega)
  rw [if_neg (by omega)]
  refine ⟨ad.add (i * size), rfl, by rw [block_add]; exact hb, fun k x hx m u hu => ?_⟩
  rw [add_add]
  have hk : l[i + k]? = some x := by
    rw [List.getElem?_take] at hx
    split at hx
    · rwa [List.getElem?_drop] at hx
    · cases hx
  have := hcell (i + k) x hk m u hu
  rw [← this]; congr 2; rw [Nat.add_mul]; omega
end Go.Cf
namespace Go.Cf
open Go.RowKit
def setL (T : List Reg) : List (Nat × Reg) → List Reg
  | [] => T
  | (i, r) :: l => (setL T l).set i r
section
variable {P : Program} {n : Fr} {w0 : World} {N : Env → World → Prop} {X : Nat → Env → World → Prop} {R : Env → World → Prop} {ρ : Env} {T : List Reg}
theorem UZ (σ : Env) (Lf Lv : List (Nat × Value)) (h1 : agree σ Lf) (h2 : agree σ Lv) : updL (updL σ Lf) Lv = σ := by
  rw [Yi σ Lf h1, Yi σ Lv h2]
theorem Mm {c : Code} (Lv Lf : List (Nat × Value)) (hv : agree ρ Lv) (hf : agree ρ Lf) (h : ∀ σ, gwp P n w0 c N X R (updL (updL σ Lf) Lv) T) : gwp P n w0 c N X R ρ T := by
  have := h ρ
  rwa [UZ ρ Lf Lv hf hv] at this
theorem gT {c : Code} (T' : List Reg) (hT : T = T') (h : gwp P n w0 c N X R ρ T') : gwp P n w0 c N X R ρ T := by subst hT; exact h
theorem Ml {c : Code} {σ0 : Env} {Lf Lv : List (Nat × Value)} {G : Type} (φ : G → Prop) (μ : G → Nat) (L : G → List (Nat × Value)) (S : G → List (Nat × Reg)) (g0 : G) (h0 : φ g0)
    (hL : agree (updL (updL σ0 Lf) Lv) (L g0)) (hF : agree (updL (updL σ0 Lf) Lv) Lf) (hT : setL T (S g0) = T)
    (round : ∀ g, φ g → ∀ σ, gwp P n w0 c (fun ρ' w' => ∃ g', μ g' < μ g ∧ φ g' ∧ agree ρ' (L g') ∧ agree ρ' Lf ∧ Mem w0 (setL T (S g')) w') X R (updL (updL σ Lf) (L g)) (setL T (S g))) :
    gwp P n w0 (.loop c) N X R (updL (updL σ0 Lf) Lv) T := by
  intro w hM
  refine cwp_loop (fun m ρ w => ∃ g, μ g = m ∧ φ g ∧ agree ρ (L g) ∧ agree ρ Lf ∧ Mem w0 (setL T (S g)) w) (μ g0) ⟨g0, rfl, h0, hL, hF, by rw [hT]; exact hM⟩ ?_
  rintro m ρ1 w1 ⟨g, rfl, hφ, hL1, hF1, hM1⟩
  have h := round g hφ ρ1 w1 hM1
  rw [UZ ρ1 Lf _ hF1 hL1] at h
  intro a ha
  refine KW (h a ha) fun e a' w' q => ?_
  cases e with
  | normal =>
    obtain ⟨ρ', hI, g', hlt, hφ', hL', hF', hM'⟩ := q
    exact ⟨ρ', hI, μ g', hlt, g', rfl, hφ', hL', hF', hM'⟩
  | exit i => exact q
  | ret => exact q
  | goto l => exact q
  | panic c => exact q
  | outgrown => exact q
theorem Kt {T0 : List Reg} {Lf : List (Nat × Value)} {G : Type} {φ : G → Prop} {μ : G → Nat} {L : G → List (Nat × Value)} {S : G → List (Nat × Reg)} {m : Nat} (g : G) (hlt : μ g < m) (hφ : φ g) (hL : agree ρ (L g)) (hF : agree ρ Lf)
    (hT : ∃ extra, T = setL T0 (S g) ++ extra) :
    Fin w0 (fun ρ' w' => ∃ g', μ g' < m ∧ φ g' ∧ agree ρ' (L g') ∧ agree ρ' Lf ∧ Mem w0 (setL T0 (S g')) w') ρ T := fun _ hM => by
  obtain ⟨extra, hT⟩ := hT
  rw [hT] at hM
  exact ⟨g, hlt, hφ, hL, hF, hM.sub (List.sublist_append_left _ _)⟩
theorem gcut2 {c : Code} {Lf : List (Nat × Value)} {G : Type} (φ : G → Prop) (L : G → List (Nat × Value)) (T' : G → List Reg) (_hf0 : agree ρ Lf)
    (h1 : gwp P n w0 c (fun ρ' w' => ∃ g, φ g ∧ agree ρ' (L g) ∧ agree ρ' Lf ∧ Mem w0 (T' g) w') X R ρ T)
    (h2 : ∀ g, φ g → ∀ σ, Fin w0 N (updL (updL σ Lf) (L g)) (T' g)) : gwp P n w0 c N X R ρ T := by
  intro w hM a ha
  refine KW (h1 w hM a ha) fun e a' w' q => ?_
  cases e with
  | normal =>
    obtain ⟨ρ', hI, g, hφ, hL, hF, hM'⟩ := q
    exact ⟨ρ', hI, by have := h2 g hφ ρ' w' hM'; rwa [UZ ρ' _ _ hF hL] at this⟩
  | exit i => exact q
  | ret => exact q
  | goto l => exact q
  | panic c => exact q
  | outgrown => exact q
theorem gcut2_end {Lf : List (Nat × Value)} {G : Type} {φ : G → Prop} {L : G → List (Nat × Value)} {T' : G → List Reg} (g : G) (hφ : φ g) (hL : agree ρ (L g)) (hF : agree ρ Lf) (hT : ∃ extra, T = T' g ++ extra) :
    Fin w0 (fun ρ' w' => ∃ g, φ g ∧ agree ρ' (L g) ∧ agree ρ' Lf ∧ Mem w0 (T' g) w') ρ T := fun _ hM => by
  obtain ⟨extra, hT⟩ := hT
  rw [hT] at hM
  exact ⟨g, hφ, hL, hF, hM.sub (List.sublist_append_left _ _)⟩
def ResV (P : Program) (ρ : Env) (w : World) : ResultVar → Value → Prop
  | .tmp t, v => ρ t = v
  | .cell a t, v => ∃ p, ρ a = .pointer (some p) ∧ (loadVar t p).run P w = .ok v w
theorem resV_run {w : World} {r : ResultVar} {v : Value} (h : ResV P ρ w r v) (tmps : Array Value) (ht : ∀ t, tmps.getD t undef = ρ t) :
    ((match r with | .tmp t => pure (tmps.getD t undef) | .cell a t => do loadVar t (← asAddr (tmps.getD a undef)) : Sem Value)).run P w = .ok v w := by
  cases r with
  | tmp t => have h' : ρ t = v := h; simp [ht, h']
  | cell a t => obtain ⟨p, h1, h2⟩ := h; simp [ht, h1, asAddr, h2]
theorem res1 {fn : Func} {w : World} {r : ResultVar} {v : Value} (hr : fn.results = #[r]) (h : ResV P ρ w r v) : resOf P fn ρ w v := fun tmps ht => by
  have h1 := resV_run h tmps ht
  cases r <;> simp_all [results]
theorem res2 {fn : Func} {w : World} {r s : ResultVar} {v u : Value} (hr : fn.results = #[r, s]) (h : ResV P ρ w r v) (h' : ResV P ρ w s u) : resOf P fn ρ w (.tuple #[v, u]) := fun tmps ht => by
  cases r <;> cases s <;> (try obtain ⟨p, hp, hl⟩ := h) <;> (try obtain ⟨p', hp', hl'⟩ := h') <;> simp_all [results, asAddr]
theorem res3 {fn : Func} {w : World} {r s q : ResultVar} {v u z : Value} (hr : fn.results = #[r, s, q]) (h : ResV P ρ w r v) (h' : ResV P ρ w s u) (h'' : ResV P ρ w q z) : resOf P fn ρ w (.tuple #[v, u, z]) := fun tmps ht => by
  cases r <;> cases s <;> cases q <;> (try obtain ⟨p, hp, hl⟩ := h) <;> (try obtain ⟨p', hp', hl'⟩ := h') <;> (try obtain ⟨p'', hp'', hl''⟩ := h'') <;> simp_all [results, asAddr]
theorem rt {w : World} {t : Nat} {v : Value} (h : ρ t = v) : ResV P ρ w (.tmp t) v := h
theorem rc {w : World} (i : Nat) {a b : Nat} {t e : TypeId} {cs : List Value} (hM : Mem w0 T w) (hp : ρ a = .pointer (some ⟨b, 0, none⟩)) (hi : T[i]? = some (box b (.cells cs.toArray e))) {m : Nat} (ht : ∀ w, (isAgg t).run P w = .ok true w) (hs : ∀ w, (sizeOf t).run P w = .ok m w) (hl : cs.length = m) :
    ResV P ρ w (.cell a t) (.agg cs.toArray) := by
  subst hl
  refine ⟨_, hp, ?_⟩
  have h := run_loadCells_list (P := P) w ⟨b, 0, none⟩ cs (fun j u hu => Kf i hi j u hu w hM)
  simp [loadVar, ht, hs, h]
theorem rc1 {w : World} (i : Nat) {a b : Nat} {t e : TypeId} {v : Value} (hM : Mem w0 T w) (hp : ρ a = .pointer (some ⟨b, 0, none⟩)) (hi : T[i]? = some (box b (.cells #[v] e))) (ht : ∀ w, (isAgg t).run P w = .ok false w) :
    ResV P ρ w (.cell a t) v := by
  refine ⟨_, hp, ?_⟩
  have h := Jm (w0 := w0) i (off := 0) hi rfl w hM
  simp [loadVar, ht, h]
end
section
variable {P : Program} {n : Fr} {w0 : World} {N : Env → World → Prop} {ρ : Env} {T : List Reg} {full : Array Oper} {rest : List Oper} {o : Oper} {d : Nat}
theorem Kh {j s : Nat} {b want : Bool} (hgd : o.guard = some (j, want)) (hs : (full[j]?).bind (·.dst) = some s) (hlt : Nat.blt s n.n = true) (hv : ρ s = .bool b)
    (hd : o.dst = some d) (hlt' : Nat.blt d n.n = true) (h1 : b = want → gops P n w0 full (bare o :: rest) N ρ T) (h2 : b = !want → gops P n w0 full rest N (upd ρ d undef) T) : gops P n w0 full (o :: rest) N ρ T := by
  by_cases hb : b = want
  · exact Js hgd hs hlt hv hb (h1 hb)
  · have hb' : b = !want := by cases b <;> cases want <;> simp_all
    exact Jj hgd hs hlt hv hb' hd hlt' (h2 hb')
theorem Xb {Q : Env → Prop} {j s : Nat} {b want : Bool} (hgd : o.guard = some (j, want)) (hs : (full[j]?).bind (·.dst) = some s) (hlt : Nat.blt s n.n = true) (hv : ρ s = .bool b)
    (hd : o.dst = some d) (hlt' : Nat.blt d n.n = true) (h1 : b = want → gqs P n w0 full (bare o :: rest) Q ρ T) (h2 : b = !want → gqs P n w0 full rest Q (upd ρ d undef) T) : gqs P n w0 full (o :: rest) Q ρ T := by
  by_cases hb : b = want
  · exact Kp hgd hs hlt hv hb (h1 hb)
  · have hb' : b = !want := by cases b <;> cases want <;> simp_all
    exact Kg hgd hs hlt hv hb' hd hlt' (h2 hb')
end
end Go.Cf
namespace Go.Cf
open Go.RowKit
theorem Ze {α : Type} {f : α → List Value} {size : Nat} (hf : ∀ x, (f x).length = size) : ∀ (l : List α) (k : Nat) (x : α), l[k]? = some x → ((l.flatMap f).drop (k * size)).take size = f x
  | [], _, _, h => by simp at h
  | y :: l, 0, x, h => by
    simp at h; subst h
    rw [List.flatMap_cons, Nat.zero_mul, List.drop_zero, List.take_append_of_le_length (by rw [hf]; omega), List.take_of_length_le (by rw [hf]; omega)]
  | y :: l, k + 1, x, h => by
    simp at h
    rw [List.flatMap_cons, List.drop_append, List.drop_of_length_le (by rw [hf, Nat.add_mul]; omega), List.nil_append, hf]
    have e : (k + 1) * size - size = k * size := by rw [Nat.add_mul]; omega
    rw [e]; exact Ze hf l k x h
def setCells (cs : List Value) (off : Nat) : List Value → List Value
  | [] => cs
  | u :: us => setCells (cs.set off u) (off + 1) us
theorem Xp : ∀ (us : List Value) (cs : List Value) (off : Nat), putAt cs.toArray off us = (setCells cs off us).toArray
  | [], _, _ => rfl
  | u :: us, cs, off => by
    show putAt (cs.toArray.setIfInBounds off u) (off + 1) us = _
    rw [List.setIfInBounds_toArray]; exact Xp us _ _
theorem MY {α : Type} {f : α → List Value} {size : Nat} (hf : ∀ x, (f x).length = size) (l : List α) (k : Nat) (y : α) (hk : l[k]? = some y) : ∀ (us : List Value) (i : Nat) (l' : List Value), i + us.length ≤ size → l'.length = (l.flatMap f).length →
    setCells l' (k * size + i) us = (l'.take (k * size)) ++ setCells ((l'.drop (k * size)).take size) i us ++ l'.drop (k * size + size)
  | [], i, l', _, hl => by
    show l' = _ ++ ((l'.drop _).take size) ++ _
    rw [List.append_assoc, ← List.drop_drop, List.take_append_drop, List.take_append_drop]
  | u :: us, i, l', hi, hl => by
    have hkl : k < l.length := by
      rcases Nat.lt_or_ge k l.length with h | h
      · exact h
      · rw [List.getElem?_eq_none h] at hk; cases hk
    have hsz : k * size + size ≤ l'.length := by
      rw [hl, Qb hf]
      have : (k + 1) * size ≤ l.length * size := Nat.mul_le_mul_right _ hkl
      rw [Nat.add_mul] at this; omega
    simp at hi
    show setCells (l'.set (k * size + i) u) (k * size + i + 1) us = _ ++ setCells (((l'.drop (k * size)).take size).set i u) (i + 1) us ++ _
    rw [Nat.add_assoc, MY hf l k y hk us (i + 1) _ (by omega) (by simp [hl])]
    have e1 : (l'.set (k * size + i) u).take (k * size) = l'.take (k * size) := by rw [List.take_set_of_le (by omega)]
    have e2 : ((l'.set (k * size + i) u).drop (k * size)).take size = ((l'.drop (k * size)).take size).set i u := by
      rw [List.drop_set, if_neg (by omega), Nat.add_sub_cancel_left, List.take_set]
    have e3 : (l'.set (k * size + i) u).drop (k * size + size) = l'.drop (k * size + size) := by rw [List.drop_set_of_lt (by omega)]
    rw [e1, e2, e3]
theorem flat_parts {α : Type} {f : α → List Value} {size : Nat} (hf : ∀ x, (f x).length = size) (l : List α) (k : Nat) (x : α) (hk : k < l.length) :
    (l.set k x).flatMap f = (l.flatMap f).take (k * size) ++ f x ++ (l.flatMap f).drop (k * size + size) := by
  have e1 : ∀ (l : List α) (k : Nat), k ≤ l.length → (l.flatMap f).take (k * size) = (l.take k).flatMap f ∧ (l.flatMap f).drop (k * size) = (l.drop k).flatMap f := by
    intro l k hkl
    have h1 : l.flatMap f = (l.take k).flatMap f ++ (l.drop k).flatMap f := by rw [← List.flatMap_append, List.take_append_drop]
    have h2 : ((l.take k).flatMap f).length = k * size := by rw [Qb hf, List.length_take, Nat.min_eq_left hkl]
    rw [h1, ← h2]
    exact ⟨List.take_left, List.drop_left⟩
  have e2 : k * size + size = (k + 1) * size := by rw [Nat.add_mul]; omega
  rw [e2, (e1 l k (by omega)).1, (e1 l (k + 1) (by omega)).2, List.set_eq_take_append_cons_drop, if_pos hk, List.flatMap_append, List.flatMap_cons, List.append_assoc]
theorem flat_put {α : Type} {f : α → List Value} {size : Nat} (hf : ∀ x, (f x).length = size) {l : List α} {k : Nat} {y x : α} (hk : l[k]? = some y) {us : List Value} {i : Nat} (hi : i + us.length ≤ size) (he : setCells (f y) i us = f x) :
    setCells (l.flatMap f) (k * size + i) us = (l.set k x).flatMap f := by
  have hkl : k < l.length := by
    rcases Nat.lt_or_ge k l.length with h | h
    · exact h
    · rw [List.getElem?_eq_none h] at hk; cases hk
  rw [MY hf l k y hk us i _ hi rfl, Ze hf l k y hk, he, flat_parts hf l k x hkl]
section
variable {P : Program} {n : Fr} {w0 : World} {N : Env → World → Prop} {ρ : Env} {T : List Reg} {full : Array Oper} {rest : List Oper} {dst : Option Tmp} {d : Nat} {ty : TypeId} {pos : String} {af : Array Edge} {gd : Option (Nat × Bool)} {x y : Operand} {v : Value} {t : TypeId}
theorem y_arridx {α : Type} {f : α → List Value} {l : List α} {e : TypeId} {s len m : Nat} {i : Int} {k : IntKind} (hf : ∀ x, (f x).length = s) (ht : P.underlying t = some (.array len e)) (hs : ∀ w, (sizeOf e).run P w = .ok s w) (ha : ∀ w, (isAgg e).run P w = .ok true w)
    (hx : ev ρ x = .agg (l.flatMap f).toArray) (hi : ev ρ y = .int k i) (hm : i.toNat = m) (h0 : 0 ≤ i) (h1 : i < len) {a : α} (hl : l[m]? = some a) :
    Yield P w0 T ρ ⟨dst, .index t x y, ty, pos, af, gd⟩ (.agg (f a).toArray) := fun w _ => by
  subst hm
  have he := Ze hf l _ a hl
  simp [execOp, hx, hi, Instr.index, asIntOf, run_underlying ht, h0, h1, hs, part, ha, he]
theorem y_arridx1 {α : Type} {f : α → Value} {l : List α} {e : TypeId} {len m : Nat} {i : Int} {k : IntKind} (ht : P.underlying t = some (.array len e)) (hs : ∀ w, (sizeOf e).run P w = .ok 1 w) (ha : ∀ w, (isAgg e).run P w = .ok false w)
    (hx : ev ρ x = .agg (l.map f).toArray) (hi : ev ρ y = .int k i) (hm : i.toNat = m) (h0 : 0 ≤ i) (h1 : i < len) {a : α} (hl : l[m]? = some a) :
    Yield P w0 T ρ ⟨dst, .index t x y, ty, pos, af, gd⟩ (f a) := fun w _ => by
  subst hm
  simp [execOp, hx, hi, Instr.index, asIntOf, run_underlying ht, h0, h1, hs, part, ha, hl]
theorem gop_store_el (i : Nat) {α : Type} {f : α → List Value} {l : List α} {size b m k o off : Nat} {e : TypeId} {us : List Value} {T' : List Reg} (hf : ∀ x, (f x).length = size) (hx : ev ρ x = .pointer (some ⟨b, off, none⟩)) (hoff : off = k * size + o) (hy : ev ρ y = v)
    (hs : ∀ w, (sizeOf t).run P w = .ok m w) (hv : v.cells.toList = us) (hm : us.length = m) (h1 : us.all Value.oneCell' = true) (hi : T[i]? = some (box b (.cells (l.flatMap f).toArray e))) {a a' : α} (hk : l[k]? = some a) (hl : o + m ≤ size) (he : setCells (f a) o us = f a')
    (hT : T.set i (box b (.cells ((l.set k a').flatMap f).toArray e)) = T') (h : gops P n w0 full rest N ρ T') : gops P n w0 full (⟨none, .store t x y, ty, pos, af, none⟩ :: rest) N ρ T := by
  have hkl : k < l.length := by
    rcases Nat.lt_or_ge k l.length with h | h
    · exact h
    · rw [List.getElem?_eq_none h] at hk; cases hk
  have hsz : k * size + size ≤ l.length * size := by
    have : (k + 1) * size ≤ l.length * size := Nat.mul_le_mul_right _ hkl
    rw [Nat.add_mul] at this; omega
  refine Jr i hx hy hs hv hm h1 hi ?_ ?_ hT h
  · rw [List.size_toArray, Qb hf]; omega
  · rw [Xp, hoff, flat_put hf hk (by omega) he]
theorem Yw {base size nn cap g : Nat} {e : TypeId} {off : Nat} : ∀ (us : List Value) (i : Nat) (xs : List Value) (w : World), w.ownsRow base e size (.slice (some ⟨g, 0, none⟩) nn cap) nn xs → (∀ u ∈ us, u.oneCell' = true) →
    off + i + us.length ≤ nn * size → ∃ w', (storeCells ⟨g, off, none⟩ us i).run P w = .ok () w' ∧ w'.ownsRow base e size (.slice (some ⟨g, 0, none⟩) nn cap) nn (setCells xs (off + i) us) ∧ Chg (fun k => k = g) w w'
  | [], i, xs, w, hb, _, _ => ⟨w, rfl, hb, ⟨rfl, rfl, rfl, Nat.le_refl _, fun _ _ _ => rfl⟩⟩
  | u :: us, i, xs, w, hb, h1, hl => by
    have hl' : off + i < nn * size := by simp at hl; omega
    have hxl : off + i < xs.length := by rw [hb.1]; exact hl'
    have hc : w.cell? ⟨g, off + i, none⟩ = some xs[off + i] := by rw [hb.cellAt _ hl', List.getElem?_eq_getElem hxl]
    have hf := hb.frozenAt (off + i)
    obtain ⟨ho, hg⟩ := hb.stored (off + i) u
    obtain ⟨w', hr, ho2, hc2⟩ := Yw (off := off) us (i + 1) _ _ ho (fun z hz => h1 z (by simp [hz])) (by simp at hl; omega)
    refine ⟨w', ?_, ho2, (Chg.setCell w ⟨g, off + i, none⟩ u).trans hc2⟩
    have hst := run_store P w ⟨g, off + i, none⟩ u .plain (h1 u (by simp))
    simp only [storeCells, Sem.run_bind, Addr.add_lit]
    rw [hst]
    simp only [hc, hf]
    simpa using hr
theorem Mk (i : Nat) {α : Type} {f : α → List Value} {l : List α} {size base g nn cap m k o off : Nat} {e : TypeId} {us : List Value} {T' : List Reg} (hf : ∀ x, (f x).length = size) (hx : ev ρ x = .pointer (some ((⟨g, 0, none⟩ : Addr).add off))) (hoff : off = k * size + o) (hy : ev ρ y = v)
    (hs : ∀ w, (sizeOf t).run P w = .ok m w) (hv : v.cells.toList = us) (hm : us.length = m) (h1 : us.all Value.oneCell' = true) (hi : T[i]? = some (rowl f base e size (.slice (some ⟨g, 0, none⟩) nn cap) l)) (hn : nn = l.length) {a a' : α} (hk : l[k]? = some a) (hl : o + m ≤ size) (he : setCells (f a) o us = f a')
    (hT : T.set i (rowl f base e size (.slice (some ⟨g, 0, none⟩) nn cap) (l.set k a')) = T') (h : gops P n w0 full rest N ρ T') : gops P n w0 full (⟨none, .store t x y, ty, pos, af, none⟩ :: rest) N ρ T := by
  have hkl : k < l.length := by
    rcases Nat.lt_or_ge k l.length with h | h
    · exact h
    · rw [List.getElem?_eq_none h] at hk; cases hk
  have hsz : k * size + size ≤ l.length * size := by
    have : (k + 1) * size ≤ l.length * size := Nat.mul_le_mul_right _ hkl
    rw [Nat.add_mul] at this; omega
  refine gop_s (fun w hM => ?_) rfl rfl
  subst hn
  have hown := hM.own i hi
  obtain ⟨w', hr, ho, hc⟩ := Yw (P := P) (off := off) us 0 _ w hown (by simpa [List.all_eq_true] using h1) (by rw [hoff]; omega)
  have hM' : Mem w0 T' w' := by
    subst hT
    refine hM.upd hi ⟨hc.os, hc.tape, hc.output, hc.size, fun j hj hn => hc.block j hj (fun e => hn (by rw [e]; rfl))⟩ ?_ ?_
    · show w'.ownsRow _ _ _ _ (l.set k a').length ((l.set k a').flatMap f)
      rw [List.length_set, ← flat_put hf hk (by omega) he, ← hoff]
      exact ho
    · intro b hb
      have hb' : some g = some b := hb
      injection hb' with hb'
      subst hb'
      exact ⟨.inl rfl, Nat.lt_of_lt_of_le (hM.lt _ (List.mem_of_getElem? hi) g rfl) hc.size⟩
  refine ⟨w', ?_, h w' hM'⟩
  have hsz : v.cells.size = m := by rw [← Array.length_toList, hv, hm]
  rw [Addr.add_lit, Nat.zero_add] at hx
  simp [execOp, hx, hy, Instr.storeAt, Instr.sureAddr, storeVar, hs, hsz, hv, hr]
theorem Yt : ∀ (us pre post : List Value), post.length = us.length → setCells (pre ++ post) pre.length us = pre ++ us
  | [], pre, post, h => by
    have : post = [] := List.eq_nil_of_length_eq_zero h
    subst this; rfl
  | u :: us, pre, [], h => by simp at h
  | u :: us, pre, p :: post, h => by
    show setCells ((pre ++ p :: post).set pre.length u) (pre.length + 1) us = _
    have e : (pre ++ p :: post).set pre.length u = (pre ++ [u]) ++ post := by
      rw [List.set_append_right _ _ (Nat.le_refl _), Nat.sub_self]; simp
    have e2 : pre.length + 1 = (pre ++ [u]).length := by simp
    rw [e, e2, Yt us (pre ++ [u]) post (by simpa using h)]; simp
theorem Ys : ∀ (us pre mid post : List Value), mid.length = us.length → setCells (pre ++ mid ++ post) pre.length us = pre ++ us ++ post
  | [], pre, mid, post, h => by
    have : mid = [] := List.eq_nil_of_length_eq_zero h
    subst this; rfl
  | u :: us, pre, [], post, h => by simp at h
  | u :: us, pre, p :: mid, post, h => by
    show setCells ((pre ++ p :: mid ++ post).set pre.length u) (pre.length + 1) us = _
    have e : (pre ++ p :: mid ++ post).set pre.length u = (pre ++ [u]) ++ mid ++ post := by
      rw [List.append_assoc, List.set_append_right _ _ (Nat.le_refl _), Nat.sub_self]; simp
    have e2 : pre.length + 1 = (pre ++ [u]).length := by simp
    rw [e, e2, Ys us (pre ++ [u]) mid post (by simpa using h)]; simp
theorem putAt_all (us cs : List Value) (h : cs.length = us.length) : putAt cs.toArray 0 us = us.toArray := by
  rw [Xp]
  have := Yt us [] cs h
  simpa using this
theorem flat_one {α : Type} {f : α → List Value} {s : Nat} (hf : Wide f s) (l : List α) : (l.flatMap f).all Value.oneCell' = true := by
  rw [List.all_eq_true]; intro u hu
  obtain ⟨x, _, hx⟩ := List.mem_flatMap.1 hu; exact (hf x).2 u hx
theorem Uw (i : Nat) {α : Type} {f : α → List Value} {l l0 : List α} {b m s : Nat} {e : TypeId} {T' : List Reg} (hf : Wide f s) (hx : ev ρ x = .pointer (some ⟨b, 0, none⟩)) (hy : ev ρ y = .agg (l.flatMap f).toArray)
    (hs : ∀ w, (sizeOf t).run P w = .ok m w) (hl : l.length * s = m) (hi : T[i]? = some (box b (.cells (l0.flatMap f).toArray e))) (hl0 : l0.length = l.length) (hT : T.set i (box b (.cells (l.flatMap f).toArray e)) = T')
    (h : gops P n w0 full rest N ρ T') : gops P n w0 full (⟨none, .store t x y, ty, pos, af, none⟩ :: rest) N ρ T :=
  Jr i hx hy hs rfl (by show (l.flatMap f).length = m; rw [Qb (fun x => (hf x).1), hl]) (flat_one hf l) hi (by rw [List.size_toArray, Qb (fun x => (hf x).1), hl0, hl]; omega)
    (putAt_all _ _ (by show (l0.flatMap f).length = (l.flatMap f).length; rw [Qb (fun x => (hf x).1), Qb (fun x => (hf x).1), hl0])) hT h
theorem Rdl.of_box {w : World} (i : Nat) {α : Type} {f : α → List Value} {l : List α} {size b : Nat} {e : TypeId} {cs : Array Value} (hf : ∀ x, (f x).length = size) (hM : Mem w0 T w) (hi : T[i]? = some (box b (.cells cs e))) (hl : (l.flatMap f).toArray = cs) : Rdl w w0.heap.size size f (some ⟨b, 0, none⟩) l := fun _ => by
  subst hl
  exact ⟨_, rfl, hM.ge _ (List.mem_of_getElem? hi) b rfl, fun k x hx j u hu => Kf i hi _ u (flat_at hf l k x hx j u hu) w hM⟩
end
end Go.Cf
namespace Go.Cf
def numbered : Nat → List Value → List (Nat × Value)
  | _, [] => []
  | k, v :: vs => (k, v) :: numbered (k + 1) vs
theorem foldl_put (off : Nat) : ∀ (us : List Value) (j : Nat) (cs : Array Value), (us.zipIdx j).foldl (fun cs (p : Value × Nat) => cs.setIfInBounds (off + p.2) p.1) cs = putAt cs (off + j) us
  | [], _, _ => rfl
  | u :: us, j, cs => by
    rw [List.zipIdx_cons, List.foldl_cons, foldl_put off us (j + 1)]; rfl
theorem fill_seq (s : Nat) : ∀ (vs : List Value) (k : Nat) (cs : List Value), (∀ v ∈ vs, v.cells.size = s) → cs.length = (k + vs.length) * s →
    Instr.fill (fun i => some (i * s, s)) cs.toArray (numbered k vs) = some ((cs.take (k * s)) ++ vs.flatMap (fun v => v.cells.toList)).toArray
  | [], k, cs, _, hl => by
    simp only [numbered, Instr.fill, List.flatMap_nil, List.append_nil]
    rw [List.take_of_length_le (by rw [hl]; simp)]
  | v :: vs, k, cs, hv, hl => by
    have h1 := hv v (by simp)
    have hlen : v.cells.toList.length = s := by rw [Array.length_toList]; exact h1
    have hks : k * s + s ≤ cs.length := by
      rw [hl]
      have : (k + 1) * s ≤ (k + (v :: vs).length) * s := Nat.mul_le_mul_right _ (by simp)
      rw [Nat.add_mul] at this; omega
    have hput : v.cells.zipIdx.foldl (fun cs (p : Value × Nat) => cs.setIfInBounds (k * s + p.2) p.1) cs.toArray = (cs.take (k * s) ++ v.cells.toList ++ cs.drop (k * s + s)).toArray := by
      rw [← Array.foldl_toList, Array.toList_zipIdx, foldl_put, Nat.add_zero, Xp]
      congr 1
      have e : cs.take (k * s) ++ (cs.drop (k * s)).take s ++ cs.drop (k * s + s) = cs := by
        rw [List.append_assoc, ← List.drop_drop, List.take_append_drop, List.take_append_drop]
      have := Ys v.cells.toList (cs.take (k * s)) ((cs.drop (k * s)).take s) (cs.drop (k * s + s)) (by simp; omega)
      rw [e, List.length_take, Nat.min_eq_left (by omega)] at this
      exact this
    show (if v.cells.size ≠ s || k * s + v.cells.size > cs.toArray.size then none else Instr.fill _ (v.cells.zipIdx.foldl (fun cs (p : Value × Nat) => cs.setIfInBounds (k * s + p.2) p.1) cs.toArray) (numbered (k + 1) vs)) = _
    rw [if_neg (by simp [h1]; omega), hput, fill_seq s vs (k + 1) _ (fun u hu => hv u (by simp [hu])) (by simp only [List.length_append, List.length_take, List.length_drop, hlen]; rw [hl] at hks ⊢; simp only [List.length_cons] at *; rw [show k + 1 + vs.length = k + (vs.length + 1) by omega]; omega)]
    congr 2
    rw [List.flatMap_cons, ← List.append_assoc]
    congr 1
    rw [List.take_append_of_le_length (by simp only [List.length_append, List.length_take, hlen]; rw [Nat.add_mul]; omega), List.take_of_length_le (by simp only [List.length_append, List.length_take, hlen]; rw [Nat.add_mul]; omega)]
section
variable {P : Program} {n : Fr} {w0 : World} {N : Env → World → Prop} {ρ : Env} {T : List Reg} {full : Array Oper} {rest : List Oper} {d : Nat} {ty t : TypeId} {pos : String} {af : Array Edge}
theorem Qo {e : TypeId} {len s : Nat} {parts : Array (Nat × Operand)} {vs : List Value} {cells : Array Value} {z : Value} (ht : P.underlying t = some (.slice e)) (hs : ∀ w, (sizeOf e).run P w = .ok s w)
    (hz : ∀ w, (zeroValue e).run P w = .ok z w) (hp : parts.toList.map (fun q => (q.1, ev ρ q.2)) = numbered 0 vs) (hsm : len * s ≤ 2 ^ 24) (hpos : len * s ≠ 0) (hlen : vs.length = len) (hvs : vs.all (fun v => v.cells.size == s) = true)
    (hc : (vs.flatMap (fun v => v.cells.toList)).toArray = cells) (hlt : Nat.blt d n.n = true)
    (h : ∀ b, w0.heap.size ≤ b → gops P n w0 full rest N (upd ρ d (.slice (some ⟨b, 0, none⟩) len len)) (T ++ [box b (.cells cells e)])) :
    gops P n w0 full (⟨some d, .buildSlice t len parts, ty, pos, af, none⟩ :: rest) N ρ T := by
  refine gop_bslice ht hs hz hp hsm hpos ?_ hlt h
  have := fill_seq s vs 0 ((Array.range (len * s)).map (z.cells[· % z.cells.size]!)).toList (fun v hv => by simpa using (List.all_eq_true.1 hvs) v hv) (by simp [hlen])
  simp only [Array.toArray_toList, Nat.zero_mul, List.take_zero, List.nil_append] at this
  rw [this, hc]
end
end Go.Cf
namespace Go.Cf
section
variable {P : Program} {n : Fr} {w0 : World} {N : Env → World → Prop} {X : Nat → Env → World → Prop} {R : Env → World → Prop} {ρ : Env} {T : List Reg} {full : Array Oper} {l : List Oper}
theorem gops_nilrow {α : Type} (f : α → List Value) (e : TypeId) (size : Nat) (h : gops P n w0 full l N ρ (T ++ [rowl f w0.heap.size e size (.slice none 0 0) []])) : gops P n w0 full l N ρ T :=
  fun w hM => h w (Qa f e size hM)
theorem Ky {Φ : Prop} (h : ∀ w, Mem w0 T w → Φ) (k : Φ → gops P n w0 full l N ρ T) : gops P n w0 full l N ρ T := fun w hM => k (h w hM) w hM
theorem Un {c : Code} {Φ : Prop} (h : ∀ w, Mem w0 T w → Φ) (k : Φ → gwp P n w0 c N X R ρ T) : gwp P n w0 c N X R ρ T := fun w hM => k (h w hM) w hM
end
end Go.Cf
namespace Go.Cf
section
variable {P : Program} {n : Fr} {w0 : World} {N : Env → World → Prop} {X : Nat → Env → World → Prop} {R : Env → World → Prop} {ρ : Env} {T : List Reg}
theorem gcut3 {c : Code} {Lf : List (Nat × Value)} {G : Type} (φ : G → Prop) (L : G → List (Nat × Value)) (S : G → List (Nat × Reg)) (hf0 : agree ρ Lf)
    (h1 : gwp P n w0 c (fun ρ' w' => ∃ g, φ g ∧ agree ρ' (L g) ∧ agree ρ' Lf ∧ Mem w0 (setL T (S g)) w') X R ρ T)
    (h2 : ∀ g, φ g → ∀ σ, Fin w0 N (updL (updL σ Lf) (L g)) (setL T (S g))) : gwp P n w0 c N X R ρ T := gcut2 φ L (fun g => setL T (S g)) hf0 h1 h2
theorem Ki {T0 : List Reg} {Lf : List (Nat × Value)} {G : Type} {φ : G → Prop} {L : G → List (Nat × Value)} {S : G → List (Nat × Reg)} (g : G) (hφ : φ g) (hL : agree ρ (L g)) (hF : agree ρ Lf) (hT : ∃ extra, T = setL T0 (S g) ++ extra) :
    Fin w0 (fun ρ' w' => ∃ g, φ g ∧ agree ρ' (L g) ∧ agree ρ' Lf ∧ Mem w0 (setL T0 (S g)) w') ρ T := gcut2_end (T' := fun g => setL T0 (S g)) g hφ hL hF hT
end
end Go.Cf
namespace Go.Cf
open Go.RowKit
structure Fault where
  code : Int
  index : Int
  deriving DecidableEq
abbrev fv (f : Fault) : Value := .agg #[.int .i64 f.code, .int .i64 f.index]
abbrev boolCells (b : Bool) : List Value := [.bool b]
abbrev intCells (n : Int) : List Value := [.int .i64 n]
abbrev strCells (s : ByteArray) : List Value := [.string s]
theorem wide_bool : Wide boolCells 1 := fun _ => ⟨rfl, by simp [boolCells, Value.oneCell']⟩
theorem wide_int : Wide intCells 1 := fun _ => ⟨rfl, by simp [intCells, Value.oneCell']⟩
theorem Wl : Wide strCells 1 := fun _ => ⟨rfl, by simp [strCells, Value.oneCell']⟩
theorem Zt {w : World} {base size n : Nat} {e : TypeId} {v : Value} {xs : List Value} (h : w.ownsRow base e size v n xs) (hn : 0 < n) : ∃ g c, v = .slice (some ⟨g, 0, none⟩) n c ∧ n ≤ c ∧ c ≤ maxLen := by
  rcases h.2 with ⟨rfl, rfl⟩ | ⟨g, cap, cur, rfl, _, _, h4, h5, _⟩
  · exact absurd hn (Nat.lt_irrefl 0)
  · exact ⟨_, _, rfl, h4, h5⟩
end Go.Cf
namespace Go.Cf
theorem Ub {b : Bool} (h : (!b) = true) : b = false := by cases b <;> simp_all
theorem Ue {b : Bool} (h : (!b) = false) : b = true := by cases b <;> simp_all
theorem Qe {f : Fault} : ((!(decide (f.code = 0) && decide (f.index = 0))) = true) ↔ f ≠ ⟨0, 0⟩ := by
  cases f with | mk a b => simp; omega
theorem Qf {f : Fault} : ((!(decide (f.code = 0) && decide (f.index = 0))) = false) ↔ f = ⟨0, 0⟩ := by
  cases f with | mk a b => simp
theorem take_next {α : Type} (l m : List α) (k : Nat) (h1 : k < l.length) (h2 : k < m.length) (ht : l.take k = m.take k) (he : l[k] = m[k]) : l.take (k + 1) = m.take (k + 1) := by
  rw [List.take_succ_eq_append_getElem h1, List.take_succ_eq_append_getElem h2, ht, he]
theorem eq_of_takes {α : Type} {l m : List α} (hl : l.length = m.length) {k : Nat} (hk : l.length ≤ k) (ht : l.take k = m.take k) : l = m := by
  rwa [List.take_of_length_le hk, List.take_of_length_le (by omega)] at ht
theorem ne_of_at {α : Type} {l m : List α} {k : Nat} (h1 : k < l.length) (h2 : k < m.length) (h : ¬ l[k] = m[k]) : ¬ l = m := by
  intro e; subst e; exact h rfl
theorem map_set {α β : Type} (f : α → β) (l : List α) (k n : Nat) (h : k < l.length) (hn : k < n) (z : β) : (l.take (k + 1)).map f ++ List.replicate (n - (k + 1)) z = ((l.take k).map f ++ List.replicate (n - k) z).set k (f l[k]) := by
  have e : n - k = (n - (k + 1)) + 1 := by omega
  rw [List.take_succ_eq_append_getElem h, List.map_append, e, List.replicate_succ, List.set_append_right _ _ (by simp; omega)]
  simp [Nat.min_eq_left (Nat.le_of_lt h)]
theorem map_same {α β : Type} (f : α → β) (l : List α) (k n : Nat) (h : k < l.length) (hn : k < n) (z : β) (hz : f l[k] = z) : (l.take (k + 1)).map f ++ List.replicate (n - (k + 1)) z = (l.take k).map f ++ List.replicate (n - k) z := by
  have e : n - k = (n - (k + 1)) + 1 := by omega
  rw [List.take_succ_eq_append_getElem h, List.map_append, e, List.replicate_succ]
  simp [hz]
theorem map_end {α β : Type} (f : α → β) (l : List α) (k n : Nat) (h : l.length ≤ k) (hn : n ≤ k) (z : β) : (l.take k).map f ++ List.replicate (n - k) z = l.map f := by
  rw [List.take_of_length_le h, Nat.sub_eq_zero_of_le hn]; simp
theorem any_take {α : Type} (p : α → Bool) (l : List α) (k : Nat) (h : k < l.length) : (l.take (k + 1)).any p = ((l.take k).any p || p l[k]) := by
  rw [List.take_succ_eq_append_getElem h, List.any_append]; simp
end Go.Cf
namespace Go.Cf
open Go.RowKit
def nx (marks : List Nat) (k i : Nat) : Nat := bif marks.contains i then k + 1 else k
def wpE (P : Program) (ops : Array Oper) (Q : Exit → Act → World → Prop) (marks : List Nat) (S : Nat → World → Prop) : Nat → Nat → Array Bool → Act → World → Prop
  | 0, _, listed, a, w => Region.ready .any ops listed = [] ∧ Q .normal a w
  | fuel + 1, k, listed, a, w =>
    (Region.ready .any ops listed = [] → Q .normal a w) ∧
    ∀ i ∈ Region.ready .any ops listed, wpOp P ops Q i (fun a' w' => S (nx marks k i) w' ∧ wpE P ops Q marks S fuel (nx marks k i) (listed.setIfInBounds i true) a' w') a w
def aheadB (ops : Array Oper) (marks : List Nat) (listed L : Array Bool) (i : Nat) : Bool :=
  !marks.contains i && listed.size == ops.size && L.size == ops.size && (List.range ops.size).all (fun j => !listed.getD j false || L.getD j false) &&
    (Region.ready .any ops L).all (· == i) && marks.all (fun m => !L.getD m false || listed.getD m false)
structure Ahead (ops : Array Oper) (marks : List Nat) (listed L : Array Bool) (i : Nat) : Prop where
  no : marks.contains i = false
  sz : listed.size = ops.size
  szL : L.size = ops.size
  le : ∀ j, listed.getD j false = true → L.getD j false = true
  stop : ∀ j ∈ Region.ready .any ops L, j = i
  mrk : ∀ m, marks.contains m = true → L.getD m false = true → listed.getD m false = true
theorem JU {ops : Array Oper} {marks : List Nat} {listed L : Array Bool} {i : Nat} (h : aheadB ops marks listed L i = true) : Ahead ops marks listed L i := by
  simp only [aheadB, Bool.and_eq_true, Bool.not_eq_true', beq_iff_eq, List.all_eq_true, List.mem_range] at h
  obtain ⟨⟨⟨⟨⟨h1, h2⟩, h3⟩, h4⟩, h5⟩, h6⟩ := h
  refine ⟨h1, h2, h3, fun j hj => ?_, h5, fun m hm hL => ?_⟩
  · have hlt : j < listed.size := by
      rcases Nat.lt_or_ge j listed.size with h | h
      · exact h
      · simp [Array.getElem?_eq_none h] at hj
    have := h4 j (by omega)
    rw [hj] at this; simpa using this
  · have := h6 m (List.contains_iff_mem.1 hm)
    rw [hL] at this; simpa using this
theorem Ahead.unlisted {ops : Array Oper} {marks : List Nat} {listed L : Array Bool} {i j : Nat} (h : Ahead ops marks listed L i) (hj : j ∈ Region.ready .any ops listed) (hji : j ≠ i) : L.getD j false = true ∧ marks.contains j = false := by
  obtain ⟨hun, oj, hoj, hall⟩ := mem_ready.1 hj
  have hlt : j < ops.size := (Array.getElem?_eq_some_iff.1 hoj).1
  have hL : L.getD j false = true := by
    cases hc : L.getD j false with
    | true => rfl
    | false =>
      have hr : j ∈ Region.ready .any ops L := mem_ready.2 ⟨by
        have : j < L.size := by rw [h.szL]; exact hlt
        simp [this] at hc ⊢; exact hc, oj, hoj, fun e he hb => h.le _ (hall e he hb)⟩
      exact absurd (h.stop j hr) hji
  refine ⟨hL, ?_⟩
  cases hc : marks.contains j with
  | false => rfl
  | true =>
    have := h.mrk j hc hL
    have hs : j < listed.size := by rw [h.sz]; exact hlt
    simp [hs] at hun this
    rw [hun] at this; cases this
theorem getD_set_self {l : Array Bool} {i j : Nat} (h : (l.setIfInBounds i true).getD j false = true) : j = i ∨ l.getD j false = true := by
  by_cases e : j = i
  · exact .inl e
  · right; rwa [getD_set_ne false (Ne.symm e)] at h
theorem getD_mono {l : Array Bool} {i j : Nat} (h : l.getD j false = true) : (l.setIfInBounds i true).getD j false = true := getD_set_true h
theorem Ahead.next {ops : Array Oper} {marks : List Nat} {listed L : Array Bool} {i j : Nat} (h : Ahead ops marks listed L i) (hL : L.getD j false = true) : Ahead ops marks (listed.setIfInBounds j true) L i :=
  ⟨h.no, by simp [h.sz], h.szL, fun q hq => by
    rcases getD_set_self hq with rfl | hq
    · exact hL
    · exact h.le q hq, h.stop, fun m hm hl => getD_mono (h.mrk m hm hl)⟩
section
variable {P : Program} {ops : Array Oper} {Q : Exit → Act → World → Prop} {marks : List Nat} {S : Nat → World → Prop}
theorem Yo : ∀ (fuel k : Nat) (listed : Array Bool) (a : Act) (w : World), wpE P ops Q marks S fuel k listed a w → wpAny P .any ops Q fuel listed a w
  | 0, _, _, _, _, h => h
  | fuel + 1, _, _, _, _, h => ⟨h.1, fun i hi => wpOp_mono (fun a' w' h' => Yo fuel _ _ a' w' h'.2) (h.2 i hi)⟩
theorem wpE_first {i k : Nat} {L : Array Bool} {oi : Oper} {v : Value} (hi : ops[i]? = some oi) (hsel : ∀ (j : Nat) (o : Oper) cs b, ops[j]? = some o → o.op ≠ .select cs b)
    (hQ : ∀ c a w, Q (.panic c) (a.put oi.dst v) w → Q (.panic c) a w) : ∀ (fuel : Nat) (listed : Array Bool) (a : Act) (w : World),
      (∀ j oj, ops[j]? = some oj → j ≠ i → listed.getD j true = false → (∀ e ∈ oj.after, Region.binds .any e = true → e.on ≠ i) → oi.apart ops oj = true) →
      Ahead ops marks listed L i → i ∈ Region.ready .any ops listed → YieldsIf P ops (S k) oi v a → S k w →
      wpE P ops Q marks S fuel k (listed.setIfInBounds i true) (a.put oi.dst v) w → wpE P ops Q marks S (fuel + 1) k listed a w := by
  intro fuel
  induction fuel with
  | zero =>
    intro listed a w _ hm hr hy hS H
    refine ⟨fun h => (by rw [h] at hr; cases hr), fun j hj => ?_⟩
    by_cases hji : j = i
    · subst hji
      have e : nx marks k j = k := by unfold nx; rw [hm.no]; rfl
      rw [e]; exact hy.wpOp hi hS ⟨hS, H⟩
    · have h0 := ready_mono hj hji
      rw [H.1] at h0; cases h0
  | succ fuel ih =>
    intro listed a w hfree hm hr hy hS H
    refine ⟨fun h => (by rw [h] at hr; cases hr), fun j hj => ?_⟩
    by_cases hji : j = i
    · subst hji
      have e : nx marks k j = k := by unfold nx; rw [hm.no]; rfl
      rw [e]; exact hy.wpOp hi hS ⟨hS, H⟩
    · obtain ⟨hjun, oj, hoj, hall⟩ := mem_ready.1 hj
      have hnot : ∀ e ∈ oj.after, Region.binds .any e = true → e.on ≠ i := by
        intro e he hb heq
        have h1 := hall e he hb
        have h0 := (mem_ready.1 hr).1
        rw [heq] at h1
        rcases Nat.lt_or_ge i listed.size with h' | h'
        · simp [h'] at h0 h1; rw [h0] at h1; cases h1
        · simp [Array.getElem?_eq_none h'] at h1
      have hap := hfree j oj hoj hji hjun hnot
      obtain ⟨hLj, hmj⟩ := hm.unlisted hj hji
      have e : nx marks k j = k := by unfold nx; rw [hmj]; rfl
      have h1 := H.2 j (ready_mono hj hji)
      rw [e] at h1 ⊢
      have h2 := wpOp_putIf hoj hap (fun cs b => hsel i oi cs b hi) (fun cs b => hsel j oj cs b hoj) hQ hy h1
      refine wpOp_mono (fun a' w' h3 => ⟨h3.2.1, ih (listed.setIfInBounds j true) a' w' ?_ (hm.next hLj) (ready_mono hr (Ne.symm hji)) h3.1 h3.2.1 ?_⟩) h2
      · intro q oq hq hqi hun hno
        refine hfree q oq hq hqi ?_ hno
        by_cases hjq : j = q
        · subst hjq; exact hjun
        · rw [getD_set_ne true hjq] at hun; exact hun
      · rw [Array.setIfInBounds_comm _ _ hji]
        exact h3.2.2
end
def ghe (P : Program) (n : Fr) (w0 : World) (full : Array Oper) (marks : List Nat) (TS : List (List Reg)) (fuel k : Nat) (listed : Array Bool) (N : Env → World → Prop) (ρ : Env) (T : List Reg) : Prop :=
  ∀ w, Mem w0 T w → ∀ a, Is n ρ a → wpE P full (Out n N (fun _ _ _ => False) (fun _ _ => False)) marks (fun k => Mem w0 (TS.getD k [])) fuel k listed a w
def Then (P : Program) (n : Fr) (w0 : World) (full : Array Oper) (marks : List Nat) (TS : List (List Reg)) (fuel k : Nat) (listed : Array Bool) (N : Env → World → Prop) (ρ : Env) (w : World) : Prop :=
  Mem w0 (TS.getD k []) w ∧ ∀ a, Is n ρ a → wpE P full (Out n N (fun _ _ _ => False) (fun _ _ => False)) marks (fun k => Mem w0 (TS.getD k [])) fuel k listed a w
section
variable {P : Program} {n : Fr} {w0 : World} {N : Env → World → Prop} {X : Nat → Env → World → Prop} {R : Env → World → Prop} {ρ : Env} {T : List Reg} {TS : List (List Reg)} {TK : List Reg}
  {full : Array Oper} {l : List Oper} {o : Oper} {v : Value} {d k fuel : Nat} {marks : List Nat} {listed listed' : Array Bool}
theorem Xv {id : Nat} (marks : List Nat) (hm : P.follows .mixedOrders = true) (h : ghe P n w0 l.toArray marks [T] l.length 0 (Array.replicate l.length false) N ρ T) (hrd : n.rd = none := by rfl) : gwp P n w0 (.region id l.toArray true) N X R ρ T := by
  intro w hM a ha
  refine cw_of_wp hrd ?_
  refine wp_mono (wp_region_any hm ?_) out_more
  have := Yo _ _ _ _ _ (h { w with drawn := w.drawn + 1 } (hM.drew rfl rfl rfl rfl) a ha)
  simpa using this
theorem Qr {id : Nat} (marks : List Nat) (S : List (Nat × Reg)) (hm : P.follows .mixedOrders = true) (h : ghe P n w0 l.toArray marks [setL T S] l.length 0 (Array.replicate l.length false) N ρ T) (hrd : n.rd = none := by rfl) : gwp P n w0 (.region id l.toArray true) N X R ρ T := by
  intro w hM a ha
  refine cw_of_wp hrd ?_
  refine wp_mono (wp_region_any hm ?_) out_more
  have := Yo _ _ _ _ _ (h { w with drawn := w.drawn + 1 } (hM.drew rfl rfl rfl rfl) a ha)
  simpa using this
theorem Ko {T' : List Reg} (h : T.take T'.length = T') : Weak w0 T T' := fun _ hM => by rw [← h]; exact hM.sub (List.take_sublist _ _)
theorem Qn : Weak w0 T [] := fun _ hM => hM.sub (List.nil_sublist _)
theorem Jv (i : Nat) (hi : full[i]? = some o) (hs : Region.noSelect full = true) (hf : Region.free .any full listed i = true) (hr : (Region.ready .any full listed).contains i = true) (L : Array Bool) (hmw : aheadB full marks listed L i = true) (hk : TS.getD k [] = TK)
    (hy : Yield P w0 TK ρ o v) (hg : o.guard = none) (hd : o.dst = some d) (hlt : Nat.blt d n.n = true) (hW : Weak w0 T TK) (hl : listed.setIfInBounds i true = listed')
    (h : ghe P n w0 full marks TS fuel k listed' N (upd ρ d v) T) : ghe P n w0 full marks TS (fuel + 1) k listed N ρ T := by
  intro w hM a ha
  subst hk
  refine wpE_first (v := v) hi (Region.noSelect_spec hs) (fun c a w q => q) fuel listed a w (Region.free_spec hi hf) (JU hmw) (by simpa using hr) (.inl ⟨by simp [Region.wanted, hg], fun w hS => by rw [ha.eval]; exact hy w hS⟩) (hW w hM) ?_
  rw [hd, hl]
  exact h w hM _ (ha.put hlt v)
theorem Qv (i : Nat) {j s : Nat} {b want : Bool} (hi : full[i]? = some o) (hs : Region.noSelect full = true) (hf : Region.free .any full listed i = true) (hr : (Region.ready .any full listed).contains i = true) (L : Array Bool) (hmw : aheadB full marks listed L i = true) (hk : TS.getD k [] = TK)
    (hgd : o.guard = some (j, want)) (hsl : (full[j]?).bind (·.dst) = some s) (hlts : Nat.blt s n.n = true) (hv : ρ s = .bool b) (hb : b = want)
    (hy : Yield P w0 TK ρ (bare o) v) (hd : o.dst = some d) (hlt : Nat.blt d n.n = true) (hW : Weak w0 T TK) (hl : listed.setIfInBounds i true = listed')
    (h : ghe P n w0 full marks TS fuel k listed' N (upd ρ d v) T) : ghe P n w0 full marks TS (fuel + 1) k listed N ρ T := by
  intro w hM a ha
  subst hk
  have hyd := Ut (full := full) ha hsl hlts hv
  refine wpE_first (v := v) hi (Region.noSelect_spec hs) (fun c a w q => q) fuel listed a w (Region.free_spec hi hf) (JU hmw) (by simpa using hr) (.inl ⟨by unfold Region.wanted; rw [hgd]; simp [hyd, hb, boolOf], fun w hS => by rw [ha.eval]; exact hy w hS⟩) (hW w hM) ?_
  rw [hd, hl]
  exact h w hM _ (ha.put hlt v)
theorem Qc (i : Nat) {j s : Nat} {u : Value} {want : Bool} (hi : full[i]? = some o) (hs : Region.noSelect full = true) (hf : Region.free .any full listed i = true) (hr : (Region.ready .any full listed).contains i = true) (L : Array Bool) (hmw : aheadB full marks listed L i = true) (hk : TS.getD k [] = TK)
    (hgd : o.guard = some (j, want)) (hsl : (full[j]?).bind (·.dst) = some s) (hlts : Nat.blt s n.n = true) (hv : ρ s = u) (hb : ¬ boolOf u = some want)
    (hd : o.dst = some d) (hlt : Nat.blt d n.n = true) (hW : Weak w0 T TK) (hl : listed.setIfInBounds i true = listed')
    (h : ghe P n w0 full marks TS fuel k listed' N (upd ρ d undef) T) : ghe P n w0 full marks TS (fuel + 1) k listed N ρ T := by
  intro w hM a ha
  subst hk
  have hyd := Ut (full := full) ha hsl hlts hv
  refine wpE_first (v := undef) hi (Region.noSelect_spec hs) (fun c a w q => q) fuel listed a w (Region.free_spec hi hf) (JU hmw) (by simpa using hr) (.inr ⟨by unfold Region.wanted; rw [hgd]; simpa [hyd] using hb, rfl⟩) (hW w hM) ?_
  rw [hd, hl]
  exact h w hM _ (ha.put hlt undef)
theorem ge_dec (s : Nat) {b : Bool} (want : Bool) (_hv : ρ s = .bool b) (h1 : b = want → ghe P n w0 full marks TS fuel k listed N ρ T) (h2 : b = !want → ghe P n w0 full marks TS fuel k listed N ρ T) : ghe P n w0 full marks TS fuel k listed N ρ T := by
  by_cases hb : b = want
  · exact h1 hb
  · exact h2 (by cases b <;> cases want <;> simp_all)
theorem not_bool_f {want : Bool} : ¬ boolOf (.bool !want) = some want := by cases want <;> simp [boolOf]
theorem Us {b want : Bool} (h : b = !want) : ¬ boolOf (.bool b) = some want := by subst h; exact not_bool_f
def GOp (P : Program) (n : Fr) (w0 : World) (full : Array Oper) (marks : List Nat) (TS : List (List Reg)) (fuel k : Nat) (listed : Array Bool) (N : Env → World → Prop) (ρ : Env) (T : List Reg) (i : Nat) : Prop :=
  ∀ w, Mem w0 T w → ∀ a, Is n ρ a → wpOp P full (Out n N (fun _ _ _ => False) (fun _ _ => False)) i (fun a' w' => Mem w0 (TS.getD (nx marks k i) []) w' ∧ wpE P full (Out n N (fun _ _ _ => False) (fun _ _ => False)) marks (fun k => Mem w0 (TS.getD k [])) fuel (nx marks k i) (listed.setIfInBounds i true) a' w') a w
theorem ge_op (i : Nat) {k' : Nat} (hi : full[i]? = some o) (hk : nx marks k i = k') (hl : listed.setIfInBounds i true = listed')
    (h : gops P n w0 full [o] (Then P n w0 full marks TS fuel k' listed' N) ρ T) (hrd : n.rd = none := by rfl) : GOp P n w0 full marks TS fuel k listed N ρ T i := by
  intro w hM a ha
  rw [hk, hl]
  have h1 := h w hM a ha
  unfold lw at h1
  rw [hrd] at h1
  dsimp only at h1
  unfold wpList at h1
  unfold wpOp
  simp only [hi]
  have key : ∀ a' w', wpList P full (Out n (Then P n w0 full marks TS fuel k' listed' N) (fun _ _ _ => False) (fun _ _ => False)) [] a' w' →
      Mem w0 (TS.getD k' []) w' ∧ wpE P full (Out n N (fun _ _ _ => False) (fun _ _ => False)) marks (fun k => Mem w0 (TS.getD k [])) fuel k' listed' a' w' := by
    intro a' w' q
    obtain ⟨ρ', hI, h2, h3⟩ := q
    exact ⟨h2, h3 a' hI⟩
  have noOut : ¬ LetsOut (Out n (Then P n w0 full marks TS fuel k' listed' N) (fun _ _ _ => False) (fun _ _ => False)) := fun ⟨_, _, q⟩ => q
  split
  · rename_i hw
    rw [if_pos hw] at h1
    left
    rcases h1 with h1 | ⟨_, h1⟩
    · have h2 := Oper.wp_mono key h1
      clear h1
      unfold Oper.wp at h2 ⊢
      generalize (execOp a.eval o).run P w = r at h2 ⊢
      cases r with
      | ok nn w' =>
        cases nn <;> simp only [Oper.upon] at h2 ⊢ <;> first
          | exact h2
          | exact Calls.mono h2 (fun e w'' he => by cases e <;> first | exact he | exact he.elim | exact (noOut he).elim)
      | halt x w' => cases x <;> simp only [Oper.upon] at h2 ⊢ <;> first | exact h2 | exact h2.elim
    · exact (noOut h1).elim
  · rename_i hw
    rw [if_neg hw] at h1
    exact key _ _ h1
theorem Mr (i : Nat) {k' : Nat} (hr : Region.ready .any full listed = [i]) (hi : full[i]? = some o) (hk : nx marks k i = k') (hl : listed.setIfInBounds i true = listed')
    (h : gops P n w0 full [o] (Then P n w0 full marks TS fuel k' listed' N) ρ T) (hrd : n.rd = none := by rfl) : ghe P n w0 full marks TS (fuel + 1) k listed N ρ T := by
  intro w hM a ha
  refine ⟨fun h0 => (by rw [hr] at h0; cases h0), fun j hj => ?_⟩
  rw [hr, List.mem_singleton] at hj
  subst hj
  exact ge_op j hi hk hl h hrd w hM a ha
theorem ge_two (i j : Nat) (hr : Region.ready .any full listed = [i, j]) (h1 : GOp P n w0 full marks TS fuel k listed N ρ T i) (h2 : GOp P n w0 full marks TS fuel k listed N ρ T j) : ghe P n w0 full marks TS (fuel + 1) k listed N ρ T := by
  intro w hM a ha
  refine ⟨fun h0 => (by rw [hr] at h0; cases h0), fun q hq => ?_⟩
  rw [hr] at hq
  rcases List.mem_cons.1 hq with rfl | hq
  · exact h1 w hM a ha
  · rw [List.mem_singleton.1 hq]; exact h2 w hM a ha
theorem Mo {listed : Array Bool} (hk : TS.getD k [] = TK) (hW : Weak w0 T TK) (h : ghe P n w0 full marks TS fuel k listed N ρ T) : Fin w0 (Then P n w0 full marks TS fuel k listed N) ρ T := fun w hM => by
  subst hk; exact ⟨hW w hM, fun a ha => h w hM a ha⟩
theorem Qd (hr : Region.ready .any full listed = []) (h : Fin w0 N ρ T) : ghe P n w0 full marks TS fuel k listed N ρ T := fun w hM a ha => by
  cases fuel with
  | zero => exact ⟨hr, ρ, ha, h w hM⟩
  | succ m => exact ⟨fun _ => ⟨ρ, ha, h w hM⟩, by rw [hr]; simp⟩
end
def emp : Reg := ⟨fun _ => False, fun _ => True, fun _ _ _ _ => trivial⟩
def both (r s : Reg) : Reg := ⟨fun b => r.has b ∨ s.has b, fun w => r.ok w ∧ s.ok w, fun w w' h hw => ⟨r.stays w w' (fun b hb => h b (.inl hb)) hw.1, s.stays w w' (fun b hb => h b (.inr hb)) hw.2⟩⟩
def all_ : List Reg → Reg
  | [] => emp
  | r :: l => both r (all_ l)
theorem Yc : ∀ (l : List Reg) (b : Nat), (all_ l).has b ↔ ∃ r ∈ l, r.has b
  | [], b => by simp [all_, emp]
  | r :: l, b => by simp [all_, both, Yc l b]
theorem all_ok : ∀ (l : List Reg) (w : World), (all_ l).ok w ↔ ∀ r ∈ l, r.ok w
  | [], w => by simp [all_, emp]
  | r :: l, w => by simp [all_, both, all_ok l w]
section
variable {w0 w w' : World} {T : List Reg}
theorem Mem.emp (h : Mem w0 T w) : Mem w0 (T ++ [emp]) w := h.add (Below.refl _ _) trivial (fun _ hb => hb.elim)
theorem Mem.fold {i : Nat} {r s : Reg} (h : Mem w0 (T ++ [s]) w) (hi : T[i]? = some r) : Mem w0 (T.set i (both r s)) w := by
  have hT : Mem w0 T w := h.sub (List.sublist_append_left _ _)
  have hr : r ∈ T := List.mem_of_getElem? hi
  have hp := List.pairwise_append.1 h.disj
  refine ⟨h.low, ?_, ?_, ?_, ?_⟩
  · intro q hq
    rcases List.mem_or_eq_of_mem_set hq with hq | rfl
    · exact hT.ok q hq
    · exact ⟨hT.ok r hr, h.ok s (by simp)⟩
  · intro q hq b hb
    rcases List.mem_or_eq_of_mem_set hq with hq | rfl
    · exact hT.lt q hq b hb
    · rcases hb with hb | hb
      · exact hT.lt r hr b hb
      · exact h.lt s (by simp) b hb
  · intro q hq b hb
    rcases List.mem_or_eq_of_mem_set hq with hq | rfl
    · exact hT.ge q hq b hb
    · rcases hb with hb | hb
      · exact hT.ge r hr b hb
      · exact h.ge s (by simp) b hb
  · refine Yz hT.disj hi (fun q hq hR b h1 h2 => ?_) (fun q hq hR b h1 h2 => ?_)
    · rcases h2 with h2 | h2
      · exact hR b h1 h2
      · exact hp.2.2 q hq s (by simp) b h1 h2
    · rcases h1 with h1 | h1
      · exact hR b h1 h2
      · exact hp.2.2 q hq s (by simp) b h2 h1
theorem Mem.join {T' : List Reg} (h : Mem w0 T w) (h' : Mem w T' w') : Mem w0 (T ++ T') w' := by
  have hc := h.call h'.low
  refine ⟨hc.low, ?_, ?_, ?_, ?_⟩
  · intro q hq
    rcases List.mem_append.1 hq with hq | hq
    · exact hc.ok q hq
    · exact h'.ok q hq
  · intro q hq b hb
    rcases List.mem_append.1 hq with hq | hq
    · exact hc.lt q hq b hb
    · exact h'.lt q hq b hb
  · intro q hq b hb
    rcases List.mem_append.1 hq with hq | hq
    · exact hc.ge q hq b hb
    · exact Nat.le_trans h.low.size (h'.ge q hq b hb)
  · rw [List.pairwise_append]
    refine ⟨h.disj, h'.disj, fun r hr s hs b h1 h2 => ?_⟩
    have := h.lt r hr b h1
    have := h'.ge s hs b h2
    omega
theorem Mem.perm {T' : List Reg} (h : Mem w0 T w) (hp : List.Perm T T') : Mem w0 T' w :=
  ⟨h.low, fun r hr => h.ok r (hp.mem_iff.2 hr), fun r hr => h.lt r (hp.mem_iff.2 hr), fun r hr => h.ge r (hp.mem_iff.2 hr), hp.pairwise h.disj (fun hxy b h1 h2 => hxy b h2 h1)⟩
theorem Mem.pack {F E : List Reg} (h : Mem w0 (F ++ E) w) : Mem w0 (F ++ [all_ E]) w ∧ ∀ F' G w', Mem w0 (F' ++ all_ E :: G) w' → Mem w0 (F' ++ (E ++ G)) w' := by
  have hp := List.pairwise_append.1 h.disj
  refine ⟨⟨h.low, ?_, ?_, ?_, ?_⟩, fun F' G w' h' => ⟨h'.low, ?_, ?_, ?_, ?_⟩⟩
  · intro q hq
    rcases List.mem_append.1 hq with hq | hq
    · exact h.ok q (by simp [hq])
    · rw [List.mem_singleton.1 hq, all_ok]; exact fun r hr => h.ok r (by simp [hr])
  · intro q hq b hb
    rcases List.mem_append.1 hq with hq | hq
    · exact h.lt q (by simp [hq]) b hb
    · rw [List.mem_singleton.1 hq, Yc] at hb; obtain ⟨r, hr, hb⟩ := hb; exact h.lt r (by simp [hr]) b hb
  · intro q hq b hb
    rcases List.mem_append.1 hq with hq | hq
    · exact h.ge q (by simp [hq]) b hb
    · rw [List.mem_singleton.1 hq, Yc] at hb; obtain ⟨r, hr, hb⟩ := hb; exact h.ge r (by simp [hr]) b hb
  · rw [List.pairwise_append]
    refine ⟨hp.1, List.pairwise_singleton _ _, fun r hr s hs b h1 h2 => ?_⟩
    rw [List.mem_singleton.1 hs, Yc] at h2
    obtain ⟨q, hq, h2⟩ := h2
    exact hp.2.2 r hr q hq b h1 h2
  · intro q hq
    rcases List.mem_append.1 hq with hq | hq
    · exact h'.ok q (by simp [hq])
    · rcases List.mem_append.1 hq with hq | hq
      · exact (all_ok E w').1 (h'.ok _ (by simp)) q hq
      · exact h'.ok q (by simp [hq])
  · intro q hq b hb
    rcases List.mem_append.1 hq with hq | hq
    · exact h'.lt q (by simp [hq]) b hb
    · rcases List.mem_append.1 hq with hq | hq
      · exact h'.lt (all_ E) (by simp) b ((Yc E b).2 ⟨q, hq, hb⟩)
      · exact h'.lt q (by simp [hq]) b hb
  · intro q hq b hb
    rcases List.mem_append.1 hq with hq | hq
    · exact h'.ge q (by simp [hq]) b hb
    · rcases List.mem_append.1 hq with hq | hq
      · exact h'.ge (all_ E) (by simp) b ((Yc E b).2 ⟨q, hq, hb⟩)
      · exact h'.ge q (by simp [hq]) b hb
  · have hp' := List.pairwise_append.1 h'.disj
    have hp2 := List.pairwise_cons.1 hp'.2.1
    rw [List.pairwise_append, List.pairwise_append]
    refine ⟨hp'.1, ⟨hp.2.1, hp2.2, fun r hr s hs b h1 h2 => hp2.1 s hs b ((Yc E b).2 ⟨r, hr, h1⟩) h2⟩, fun r hr s hs b h1 h2 => ?_⟩
    rcases List.mem_append.1 hs with hs | hs
    · exact hp'.2.2 r hr (all_ E) (by simp) b h1 ((Yc E b).2 ⟨s, hs, h2⟩)
    · exact hp'.2.2 r hr s (by simp [hs]) b h1 h2
end
section
variable {P : Program} {n : Fr} {w0 : World} {N : Env → World → Prop} {X : Nat → Env → World → Prop} {R : Env → World → Prop} {ρ : Env} {T : List Reg} {full : Array Oper} {l rest : List Oper} {o : Oper} {d : Nat} {c : Code}
theorem g_emp (h : gwp P n w0 c N X R ρ (T ++ [emp])) : gwp P n w0 c N X R ρ T := fun w hM => h w hM.emp
theorem Yk (T' : List Reg) (hT : Weak w0 T T') (h : gops P n w0 full l N ρ T') : gops P n w0 full l N ρ T := fun w hM => h w (hT w hM)
theorem fin_mem (T' : List Reg) (hT : Weak w0 T T') (h : Fin w0 N ρ T') : Fin w0 N ρ T := fun w hM => h w (hT w hM)
theorem weak_perm {T' : List Reg} (h : List.Perm T T') : Weak w0 T T' := fun _ hM => hM.perm h
theorem My {f : FuncId} {args : Array Value} (Ψ : Value → List Reg → Prop) (he : ∀ w, (execOp (ev ρ) o).run P w = .ok (.enter f args) w)
    (hc : ∀ w, Mem w0 T w → Calls P f args w (fun e w' => ∃ v T', e = .returned v ∧ Ψ v T' ∧ Mem w T' w'))
    (hg : o.guard = none) (hd : o.dst = some d) (hlt : Nat.blt d n.n = true)
    (h : ∀ v T', Ψ v T' → gops P n w0 full rest N (upd ρ d v) (T ++ T')) : gops P n w0 full (o :: rest) N ρ T :=
  Zz he (fun w hM => (hc w hM).mono fun _ w' ⟨v, T', he, hΨ, hM'⟩ => ⟨v, he, h v T' hΨ w' (hM.join hM')⟩) hg hd hlt
theorem gcallsT {f : FuncId} {fn : Func} {args : Array Value} {w : World} {R : Ending → World → Prop} {n : Nat}
    (hf : P.funcs[f]? = some fn) (hb : fn.body = some c) (hn : fn.ntmps = n) (hs : args.size ≤ n) (hM : Mem w0 T w)
    (h : gwp P (.plain n) w0 c (fun ρ w' => ∃ v, resOf P fn ρ w' v ∧ R (.returned v) w') (fun _ _ _ => False) (fun ρ w' => ∃ v, resOf P fn ρ w' v ∧ R (.returned v) w') (envOf args) T) :
    Calls P f args w R := by
  refine callsIn_wide.1 (callsIn_of_wp_marks (F := Fence.wide) (n := 0) hf hb trivial ?_)
  rw [hn]
  exact gleaves (h w hM _ (is_start args n hs))
theorem res0 {fn : Func} {w : World} (hr : fn.results = #[]) : resOf P fn ρ w (.tuple #[]) := fun tmps ht => by simp [results, hr]
end
section
variable {P : Program} {w0 : World} {T : List Reg} {ρ : Env} {dst : Option Tmp} {ty : TypeId} {pos : String} {af : Array Edge} {gd : Option (Nat × Bool)} {x y : Operand} {t yt : TypeId}
theorem Ym {f : FuncId} {caps : Array Operand} {vs : List Value} (hc : caps.toList.map (ev ρ) = vs) : Yield P w0 T ρ ⟨dst, .makeFunc (.func f) #[] caps, ty, pos, af, gd⟩ (.func (.func f) #[] vs.toArray) := fun w _ => by
  have e : caps.map (ev ρ) = vs.toArray := by rw [← hc, ← Array.toList_map, Array.toArray_toList]
  simp [execOp, Instr.makeFunc, e]
theorem Wx {f : FuncId} {fn : Func} {args : Array Operand} {ats : Array TypeId} {vs cs : List Value} (hv : ev ρ x = .func (.func f) #[] cs.toArray) (hf : P.funcs[f]? = some fn) (hb : fn.body.isSome = true) (hnm : (fn.name == "runtime.NumGoroutine") = false) (ha : args.toList.map (ev ρ) = vs) (w : World) :
    (execOp (ev ρ) ⟨dst, .call { callee := .value x, args := args, argTypes := ats }, ty, pos, af, gd⟩).run P w = .ok (.enter f (vs ++ cs).toArray) w := by
  have e : args.map (ev ρ) = vs.toArray := by rw [← ha, ← Array.toList_map, Array.toArray_toList]
  obtain ⟨c, hc⟩ := Option.isSome_iff_exists.1 hb
  have hnm' : ¬ fn.name = "runtime.NumGoroutine" := by simpa using hnm
  simp [execOp, resolve, Deferred.ofValue, hv, invoke, callFunc, e, hf, hc, hnm']
theorem y_eqlnil {e : TypeId} {A : Option Addr} {l c : Nat} (ht : P.underlying t = some (.slice e)) (hx : ev ρ x = .slice A l c) (hy : ev ρ y = .slice none 0 0) : Yield P w0 T ρ ⟨dst, .binOp .eql t x y yt, ty, pos, af, gd⟩ (.bool A.isNone) := fun w _ => by
  simp only [execOp, go_sem, hx, hy]; simp [binOp, run_equal_slice_nil w t e A l c ht]
end
end Go.Cf
namespace Go.Cf
open Go.RowKit
section
variable {P : Program} {n : Fr} {w0 : World} {N : Env → World → Prop} {ρ : Env} {T : List Reg} {full : Array Oper} {rest : List Oper} {d : Nat} {ty t : TypeId} {pos : String} {af : Array Edge}
theorem gop_bslice0 {α : Type} (f : α → List Value) {e : TypeId} {s : Nat} (ht : P.underlying t = some (.slice e)) (hs : ∀ w, (sizeOf e).run P w = .ok s w) (hlt : Nat.blt d n.n = true)
    (h : ∀ b, w0.heap.size ≤ b → gops P n w0 full rest N (upd ρ d (.slice (some ⟨b, 0, none⟩) 0 0)) (T ++ [rowl f w0.heap.size e s (.slice (some ⟨b, 0, none⟩) 0 0) []])) :
    gops P n w0 full (⟨some d, .buildSlice t 0 #[], ty, pos, af, none⟩ :: rest) N ρ T :=
  Zl (fun w hM => by
    refine ⟨.slice (some ⟨w.heap.size, 0, none⟩) 0 0, w.alloc (.cells #[] e), ?_, h w.heap.size hM.low.size _ (hM.add ((Below.refl _ _).alloc (Nat.le_refl _) _) ?_ ?_)⟩
    · simp only [execOp, Instr.buildSlice, Sem.run_bind, run_underlying ht, Result.andThen_ok, hs, Nat.zero_mul]
      simp [Instr.fill, newRow]
      congr 2
      exact Array.eq_empty_of_size_eq_zero (by simp)
    · refine ⟨by simp, .inr ⟨w.heap.size, 0, #[], rfl, hM.low.size, heap_alloc_new w _, Nat.le_refl _, by unfold maxLen; omega, by simp, by simp⟩⟩
    · intro b hb
      have hb' : some w.heap.size = some b := hb
      injection hb' with hb'
      subst hb'
      simp) rfl rfl hlt
theorem Mj (i : Nat) {α : Type} {f : α → List Value} {l : List α} {size base g nn cap k : Nat} {e : TypeId} {a : α} (hi : T[i]? = some (rowl f base e size (.slice (some ⟨g, 0, none⟩) nn cap) l)) (hn : nn = l.length) (hf : ∀ x, (f x).length = size) (hk : l[k]? = some a) :
    ∀ j u, (f a)[j]? = some u → Cell w0 T ((⟨g, 0, none⟩ : Addr).add (k * size + j)) u := fun j u hu w hM => by
  subst hn
  have h := hM.own i hi
  exact h.cells (g := g) rfl _ u (flat_at hf l k a hk j u hu)
theorem cells_rowp (i : Nat) {α : Type} {f : α → List Value} {l : List α} {size base g nn cap k : Nat} {e : TypeId} {a : α} (hi : T[i]? = some (rowl f base e size (.slice (some ⟨g, 0, none⟩) nn cap) l)) (hn : nn = l.length) (hf : ∀ x, (f x).length = size) (hk : l[k]? = some a) :
    ∀ j u, (f a)[j]? = some u → Cell w0 T (((⟨g, 0, none⟩ : Addr).add (k * size)).add j) u := fun j u hu => by
  rw [add_add]; exact Mj i hi hn hf hk j u hu
theorem own_lower {w : World} {base base' : Nat} {e : TypeId} {size : Nat} {v : Value} {m : Nat} {xs : List Value} (h : w.ownsRow base e size v m xs) (hb : base' ≤ base) : w.ownsRow base' e size v m xs := by
  refine ⟨h.1, ?_⟩
  rcases h.2 with h | ⟨g, cap, cur, hv, h1, h2⟩
  · exact .inl h
  · exact .inr ⟨g, cap, cur, hv, Nat.le_trans hb h1, h2⟩
theorem Wg (i : Nat) {α : Type} {f : α → List Value} {l : List α} {size base : Nat} {e : TypeId} {v : Value} (hi : T[i]? = some (rowl f base e size v l)) (hb : w0.heap.size ≤ base) : Weak w0 T (T.set i (rowl f w0.heap.size e size v l)) := fun _ hM =>
  hM.upd hi (Chg.of_below (Below.refl _ _)) (own_lower (hM.own i hi) hb) (fun b h => ⟨.inl h, hM.lt _ (List.mem_of_getElem? hi) b h⟩)
theorem Mz {α : Type} {f : α → List Value} {l : List α} {size base : Nat} {e : TypeId} {v : Value} {w : World} (h : (rowl f base e size v l).ok w) : ∃ A c, v = .slice A l.length c ∧ l.length ≤ c ∧ c ≤ maxLen ∧ (A = none → c = 0) := by
  have h' : w.ownsRow base e size v l.length (l.flatMap f) := h
  rcases h'.2 with ⟨h1, h2⟩ | ⟨g, cap, cur, hv, _, _, h4, h5, _⟩
  · exact ⟨none, 0, by rw [h1, h2], by omega, by unfold maxLen; omega, fun _ => rfl⟩
  · exact ⟨_, _, hv, h4, h5, fun h => by cases h⟩
theorem Qw {α : Type} {f : α → List Value} {l : List α} {size base n c : Nat} {e : TypeId} {A : Option Addr} {w : World} (hf : ∀ x, (f x).length = size) (h : (rowl f base e size (.slice A n c) l).ok w) : Rdl w base size f A l := Rdl.of_own hf h
theorem Um (m i : Nat) {r : Reg} (hi : (T.take m)[i]? = some r) : Weak w0 T ((T.take m).set i (both r (all_ (T.drop m)))) := fun w hM => by
  have h1 : Mem w0 (T.take m ++ T.drop m) w := by rw [List.take_append_drop]; exact hM
  exact (Mem.pack h1).1.fold hi
theorem Mem.dropTo {w : World} {T' : List Reg} (m : Nat) (hM : Mem w0 T w) (h : T.drop m = T') : Mem w0 T' w := by subst h; exact hM.sub (List.drop_sublist _ _)
theorem Yy {T : List Reg} {i : Nat} {r : Reg} (hi : T[i]? = some r) : List.Perm T (r :: T.eraseIdx i) := by
  induction T generalizing i with
  | nil => simp at hi
  | cons a T ih =>
    cases i with
    | zero => simp at hi; subst hi; exact List.Perm.refl _
    | succ i => simp at hi; exact (List.Perm.cons a (ih hi)).trans (List.Perm.swap _ _ _)
theorem perm_front2 {T : List Reg} {i j : Nat} {r s : Reg} (hij : i < j) (hi : T[i]? = some r) (hj : T[j]? = some s) : List.Perm T (r :: s :: (T.eraseIdx j).eraseIdx i) :=
  ((Yy hj).trans (List.Perm.cons s (Yy (by rw [List.getElem?_eraseIdx_of_lt hij]; exact hi)))).trans (List.Perm.swap _ _ _)
theorem erase_set2 {T : List Reg} {i j : Nat} {r s : Reg} (hij : i < j) : (((T.set i r).set j s).eraseIdx j).eraseIdx i = (T.eraseIdx j).eraseIdx i := by
  rw [List.eraseIdx_set_eq, List.eraseIdx_set_gt hij, List.eraseIdx_set_eq]
theorem Zc {T : List Reg} {i m : Nat} {q : Reg} (hm : T[m]? = some q) (h : m ≠ i) : q ∈ T.eraseIdx i := by
  rcases Nat.lt_or_ge m i with h1 | h1
  · exact List.mem_of_getElem? (i := m) (by rw [List.getElem?_eraseIdx_of_lt h1]; exact hm)
  · refine List.mem_of_getElem? (i := m - 1) ?_
    rw [List.getElem?_eraseIdx_of_ge (by omega), show m - 1 + 1 = m by omega]; exact hm
theorem Mem.focus1 {w : World} (i : Nat) {r : Reg} (hM : Mem w0 T w) (hi : T[i]? = some r) : ∃ fr, Mem w0 [r, fr] w ∧ (∀ m q, T[m]? = some q → m ≠ i → ∀ w1, fr.ok w1 → q.ok w1) ∧ ∀ r' G w', Mem w0 (r' :: fr :: G) w' → Mem w0 (T.set i r' ++ G) w' := by
  have hlt : i < T.length := (List.getElem?_eq_some_iff.1 hi).1
  obtain ⟨h1, h2⟩ := Mem.pack (F := [r]) (hM.perm (Yy hi))
  refine ⟨_, h1, fun m q hm hne w1 ho => (all_ok _ w1).1 ho q (Zc hm hne), fun r' G w' h' => (h2 [r'] G w' h').perm ?_⟩
  have := Yy (T := T.set i r') (i := i) (r := r') (by rw [List.getElem?_set_self hlt])
  rw [List.eraseIdx_set_eq] at this
  exact (this.append_right G).symm
theorem Mem.focus2 {w : World} (i j : Nat) {r s : Reg} (hM : Mem w0 T w) (hij : Nat.blt i j = true) (hi : T[i]? = some r) (hj : T[j]? = some s) : ∃ fr, Mem w0 [r, s, fr] w ∧ (∀ m q, T[m]? = some q → m ≠ i → m ≠ j → ∀ w1, fr.ok w1 → q.ok w1) ∧ ∀ r' s' G w', Mem w0 (r' :: s' :: fr :: G) w' → Mem w0 ((T.set i r').set j s' ++ G) w' := by
  have hij' : i < j := Nat.le_of_ble_eq_true hij
  have hlt : j < T.length := (List.getElem?_eq_some_iff.1 hj).1
  obtain ⟨h1, h2⟩ := Mem.pack (F := [r, s]) (hM.perm (perm_front2 hij' hi hj))
  refine ⟨_, h1, fun m q hm hne hne' w1 ho => (all_ok _ w1).1 ho q ?_, fun r' s' G w' h' => (h2 [r', s'] G w' h').perm ?_⟩
  · rcases Nat.lt_or_ge m j with h3 | h3
    · exact Zc (m := m) (by rw [List.getElem?_eraseIdx_of_lt h3]; exact hm) hne
    · refine Zc (m := m - 1) ?_ (by omega)
      rw [List.getElem?_eraseIdx_of_ge (by omega), show m - 1 + 1 = m by omega]; exact hm
  · have := perm_front2 (T := (T.set i r').set j s') (r := r') (s := s') hij' (by rw [List.getElem?_set_ne (by omega), List.getElem?_set_self (by omega)]) (by rw [List.getElem?_set_self (by simpa using hlt)])
    rw [erase_set2 hij'] at this
    exact (this.append_right G).symm
variable {o : Oper}
theorem Mu {f : FuncId} {args : Array Value} (i : Nat) (Ψ : Value → Reg → List Reg → Prop) (he : ∀ w, (execOp (ev ρ) o).run P w = .ok (.enter f args) w) {r : Reg} (hi : T[i]? = some r)
    (hc : ∀ w fr, (∀ m q, T[m]? = some q → m ≠ i → ∀ w1, fr.ok w1 → q.ok w1) → Mem w0 [r, fr] w → Calls P f args w (fun e w' => ∃ v r' G, e = .returned v ∧ Ψ v r' G ∧ Mem w0 (r' :: fr :: G) w'))
    (hg : o.guard = none) (hd : o.dst = some d) (hlt : Nat.blt d n.n = true)
    (h : ∀ v r' G, Ψ v r' G → gops P n w0 full rest N (upd ρ d v) (T.set i r' ++ G)) : gops P n w0 full (o :: rest) N ρ T :=
  Zz he (fun w hM => by
    obtain ⟨fr, h1, h2, h3⟩ := hM.focus1 i hi
    exact (hc w fr h2 h1).mono fun _ w' ⟨v, r', G, he, hΨ, hM'⟩ => ⟨v, he, h v r' G hΨ w' (h3 r' G w' hM')⟩) hg hd hlt
theorem Qk {f : FuncId} {args : Array Value} (i j : Nat) (Ψ : Value → Reg → Reg → List Reg → Prop) (he : ∀ w, (execOp (ev ρ) o).run P w = .ok (.enter f args) w) {r s : Reg} (hij : Nat.blt i j = true) (hi : T[i]? = some r) (hj : T[j]? = some s)
    (hc : ∀ w fr, (∀ m q, T[m]? = some q → m ≠ i → m ≠ j → ∀ w1, fr.ok w1 → q.ok w1) → Mem w0 [r, s, fr] w → Calls P f args w (fun e w' => ∃ v r' s' G, e = .returned v ∧ Ψ v r' s' G ∧ Mem w0 (r' :: s' :: fr :: G) w'))
    (hg : o.guard = none) (hd : o.dst = some d) (hlt : Nat.blt d n.n = true)
    (h : ∀ v r' s' G, Ψ v r' s' G → gops P n w0 full rest N (upd ρ d v) ((T.set i r').set j s' ++ G)) : gops P n w0 full (o :: rest) N ρ T :=
  Zz he (fun w hM => by
    obtain ⟨fr, h1, h2, h3⟩ := hM.focus2 i j hij hi hj
    exact (hc w fr h2 h1).mono fun _ w' ⟨v, r', s', G, he, hΨ, hM'⟩ => ⟨v, he, h v r' s' G hΨ w' (h3 r' s' G w' hM')⟩) hg hd hlt
end
end Go.Cf
namespace Go.Cf
open Go.RowKit
theorem cut_nil {A : Option Addr} {c i : Nat} {f : Addr → Addr} (hA : A = none → c = 0) (h : (if c = i then A else A.map f) = none) : c - i = 0 := by
  by_cases h1 : c = i
  · omega
  · rw [if_neg h1] at h
    have := hA (by cases A <;> simp_all)
    omega
section
variable {w0 : World} {T : List Reg}
theorem Kw (i : Nat) {r : Reg} (hi : T[i]? = some r) : Weak w0 T (T.set i emp) := fun _ hM =>
  hM.upd hi (Chg.of_below (Below.refl _ _)) trivial (fun _ h => h.elim)
end
end Go.Cf
namespace Go.Cf
section
variable {P : Program} {w0 : World} {T : List Reg} {ρ : Env} {dst : Option Tmp} {ty : TypeId} {pos : String} {af : Array Edge} {gd : Option (Nat × Bool)} {x y : Operand} {t yt e : TypeId}
theorem MK (w : World) (d : Nat) (p : Option Addr) (h : P.underlying t = some (.pointer e)) : (Op.equalIn (d + 1) t (.pointer p) (.pointer none)).run P w = .ok p.isNone w := by
  cases p <;> simp [Op.equalIn, run_underlying h]
theorem run_equal_ptr_nil (w : World) (p : Option Addr) (h : P.underlying t = some (.pointer e)) : (Op.equal t (.pointer p) (.pointer none)).run P w = .ok p.isNone w := MK w 9999 p h
theorem y_eqlptr {p : Option Addr} (ht : P.underlying t = some (.pointer e)) (hx : ev ρ x = .pointer p) (hy : ev ρ y = .pointer none) : Yield P w0 T ρ ⟨dst, .binOp .eql t x y yt, ty, pos, af, gd⟩ (.bool p.isNone) := fun w _ => by
  simp only [execOp, go_sem, hx, hy]; simp [binOp, run_equal_ptr_nil w p ht]
end
end Go.Cf
namespace Go.Cf
open Go.RowKit
def byteAt (s : ByteArray) (i : Nat) : Nat := (s.data.toList[i]?.getD 0).toNat
theorem byteAt_get {s : ByteArray} {i : Nat} (h : i < s.size) : byteAt s i = (s[i]'h).toNat := by
  have h' : i < s.data.size := h
  unfold byteAt
  rw [Array.getElem?_toList, Array.getElem?_eq_getElem h']; rfl
section
variable {P : Program} {w0 : World} {T : List Reg} {ρ : Env} {dst : Option Tmp} {ty : TypeId} {pos : String} {af : Array Edge} {gd : Option (Nat × Bool)} {x y : Operand} {t : TypeId}
theorem Uu {s : ByteArray} {k : IntKind} {i : Int} {m : Nat} (ht : P.underlying t = some .string) (hx : ev ρ x = .string s) (hi : ev ρ y = .int k i) (hm : i.toNat = m) (h0 : 0 ≤ i) (h1 : i < s.size) :
    Yield P w0 T ρ ⟨dst, .index t x y, ty, pos, af, gd⟩ (.int .u8 (byteAt s m : Nat)) := fun w _ => by
  subst hm
  have h := run_index_string (P := P) w t s k i ht
  rw [dif_pos ⟨h0, h1⟩] at h
  rw [byteAt_get (by omega)]
  simp [execOp, hx, hi, h]
end
end Go.Cf
namespace Go.Cf
open Go.RowKit
section
variable {P : Program} {w0 : World} {T : List Reg} {ρ : Env} {dst : Option Tmp} {ty : TypeId} {pos : String} {af : Array Edge} {gd : Option (Nat × Bool)} {x y z : Operand} {t : TypeId} {s : ByteArray} {kl kh : IntKind} {lo hi : Int}
theorem y_strslice (ht : P.underlying t = some .string) (hx : ev ρ x = .string s) (hy : ev ρ y = .int kl lo) (hz : ev ρ z = .int kh hi) (h0 : 0 ≤ lo) (h1 : lo ≤ hi) (h2 : hi ≤ s.size) :
    Yield P w0 T ρ ⟨dst, .slice t x (some y) (some z) none, ty, pos, af, gd⟩ (.string (s.extract lo.toNat hi.toNat)) := fun w _ => by
  have h := run_slice_string (P := P) w t s kl kh lo hi ht h0 h1 h2
  have h' := run_sliceAt_string (P := P) w t (.string s) (some (.int kl lo)) (some (.int kh hi)) none ht
  simp [execOp, hx, hy, hz, h', h]
theorem MM (ht : P.underlying t = some .string) (hx : ev ρ x = .string s) (hy : ev ρ y = .int kl lo) (h0 : 0 ≤ lo) (h1 : lo ≤ s.size) :
    Yield P w0 T ρ ⟨dst, .slice t x (some y) none none, ty, pos, af, gd⟩ (.string (s.extract lo.toNat s.size)) := fun w _ => by
  have h := run_slice_string_l (P := P) w t s ht kl lo h0 h1
  have h' := run_sliceAt_string (P := P) w t (.string s) (some (.int kl lo)) none none ht
  simp [execOp, hx, hy, h', h]
theorem MQ (ht : P.underlying t = some .string) (hx : ev ρ x = .string s) (hz : ev ρ z = .int kh hi) (h0 : 0 ≤ hi) (h2 : hi ≤ s.size) :
    Yield P w0 T ρ ⟨dst, .slice t x none (some z) none, ty, pos, af, gd⟩ (.string (s.extract 0 hi.toNat)) := fun w _ => by
  have h := run_slice_string_h (P := P) w t s ht kh hi h0 h2
  have h' := run_sliceAt_string (P := P) w t (.string s) none (some (.int kh hi)) none ht
  simp [execOp, hx, hz, h', h]
end
end Go.Cf
namespace Go.Cf
open Go.RowKit
structure Key {K : Type} [DecidableEq K] (P : Program) (kt : TypeId) (ek : K → Value) : Prop where
  wide : (match P.underlying kt with | some (.array _ _) | some (.struct _) => true | _ => false) = true
  check : ∀ (em : Bool) (k : K) (w : World), (Instr.checkKey em 10000 kt (ek k)).run P w = .ok () w
  eq : ∀ (k k' : K) (w : World), (Op.equal kt (ek k) (ek k')).run P w = .ok (decide (k = k')) w
  same : ∀ k : K, Instr.sameBits 10000 (ek k) (ek k) = true
section
variable {K V : Type} [DecidableEq K] {ek : K → Value} {vk : V → Value} {P : Program} {kt t vt : TypeId}
def look (l : List (K × V)) (k : K) : Option V := match l with
  | [] => none
  | p :: l => if p.1 = k then some p.2 else look l k
def putK (l : List (K × V)) (k : K) (v : V) : List (K × V) := match l with
  | [] => [(k, v)]
  | p :: l => if p.1 = k then (k, v) :: l else p :: putK l k v
theorem look_put (l : List (K × V)) (k k' : K) (v : V) : look (putK l k v) k' = if k = k' then some v else look l k' := by
  induction l with
  | nil => simp [look, putK]
  | cons p l ih =>
    simp only [putK]
    split
    · rename_i h; simp only [look]; subst h; split <;> simp_all
    · rename_i h; simp only [look, ih]; split <;> split <;> simp_all
def Shows (ek : K → Value) (vk : V → Value) (es : List MapEntry) (l : List (K × V)) : Prop := es.map (fun e => (e.key, e.val)) = l.map (fun p => (ek p.1, vk p.2))
theorem shows_cons {K V : Type} {ek : K → Value} {vk : V → Value} {e : MapEntry} {es : List MapEntry} {l : List (K × V)} (h : Shows ek vk (e :: es) l) : ∃ p l', l = p :: l' ∧ e.key = ek p.1 ∧ e.val = vk p.2 ∧ Shows ek vk es l' := by
  cases l with
  | nil => simp [Shows] at h
  | cons p l' =>
    simp only [Shows, List.map_cons, List.cons.injEq, Prod.mk.injEq] at h
    exact ⟨p, l', rfl, h.1.1, h.1.2, h.2⟩
def placeK (l : List (K × V)) (k : K) (i : Nat) : Option (Nat × V) := match l with
  | [] => none
  | p :: l => if p.1 = k then some (i, p.2) else placeK l k (i + 1)
theorem placeK_look (l : List (K × V)) (k : K) (i : Nat) : (placeK l k i).map (·.2) = look l k := by
  induction l generalizing i with
  | nil => rfl
  | cons p l ih => simp only [placeK, look]; split <;> simp [ih]
theorem run_find (H : Key P kt ek) (k : K) (w : World) : ∀ (es : List MapEntry) (l : List (K × V)) (i : Nat), Shows ek vk es l →
    (Instr.findAsking kt (ek k) es i).run P w = .ok ((placeK l k i).map fun q => (q.1, vk q.2)) w
  | [], l, i, h => by
    cases l with
    | nil => simp [Instr.findAsking, placeK]
    | cons p l => simp [Shows] at h
  | e :: es, l, i, h => by
    obtain ⟨p, l', rfl, h1, h2, h3⟩ := shows_cons h
    simp only [Instr.findAsking, placeK]
    by_cases hk : p.1 = k
    · subst hk
      simp [h1, H.eq, h2]
    · simp [h1, H.eq, hk, Ne.symm hk, run_find H k w es l' (i + 1) h3]
theorem run_findK (H : Key P kt ek) (k : K) (w : World) {es : List MapEntry} {l : List (K × V)} (h : Shows ek vk es l) :
    (Instr.findKey kt (ek k) es).run P w = .ok ((placeK l k 0).map fun q => (q.1, vk q.2)) w := by
  rw [run_findKey_eq _ H.wide]
  exact run_find H k w es l 0 h
theorem placeK_put {l : List (K × V)} {k : K} {i j : Nat} {u v : V} (h : placeK l k i = some (j, u)) : i ≤ j ∧ (l[j - i]?).map (·.1) = some k ∧ putK l k v = l.set (j - i) (k, v) := by
  induction l generalizing i with
  | nil => simp [placeK] at h
  | cons p l ih =>
    simp only [placeK] at h
    split at h
    · rename_i e
      simp only [Option.some.injEq, Prod.mk.injEq] at h
      obtain ⟨rfl, rfl⟩ := h
      simp [putK, e]
    · rename_i e
      obtain ⟨h1, h2, h3⟩ := ih h
      have e1 : j - i = (j - (i + 1)) + 1 := by omega
      refine ⟨by omega, ?_, ?_⟩
      · rw [e1]; simpa using h2
      · rw [e1, putK, if_neg e, h3]; simp
theorem placeK_none {l : List (K × V)} {k : K} {i : Nat} {v : V} (h : placeK l k i = none) : putK l k v = l ++ [(k, v)] := by
  induction l generalizing i with
  | nil => rfl
  | cons p l ih =>
    simp only [placeK] at h
    split at h
    · cases h
    · rename_i e; rw [putK, if_neg e, ih h]; rfl
def mapr (ek : K → Value) (vk : V → Value) (b : Nat) (l : List (K × V)) : Reg :=
  ⟨fun k => k = b, fun w => ∃ es clock, w.heap[b]? = some (.map es clock) ∧ Shows ek vk es.toList l, fun _ _ h ⟨es, c, h1, h2⟩ => ⟨es, c, (h b rfl).trans h1, h2⟩⟩
end
section
variable {K V : Type} [DecidableEq K] {ek : K → Value} {vk : V → Value} {P : Program} {kt t vt : TypeId} {n : Fr} {w0 : World} {T : List Reg} {ρ : Env} {N : Env → World → Prop} {full : Array Oper} {rest : List Oper}
  {dst : Option Tmp} {ty : TypeId} {pos : String} {af : Array Edge} {gd : Option (Nat × Bool)} {x y z : Operand}
theorem run_lookK (i : Nat) {b : Nat} {l : List (K × V)} (H : Key P kt ek) (ht : P.underlying t = some (.map kt vt)) {v0 : Value} (hz : ∀ w, (zeroValue vt).run P w = .ok v0 w) (hi : T[i]? = some (mapr ek vk b l)) (k : K) (c : Bool) {w : World} (hM : Mem w0 T w) :
    (Instr.lookup t (.map (some b)) (ek k) c).run P w = .ok (if c then .tuple #[((look l k).map vk).getD v0, .bool (look l k).isSome] else ((look l k).map vk).getD v0) w := by
  obtain ⟨es, clock, h1, h2⟩ := hM.ok _ (List.mem_of_getElem? hi)
  have hf := run_findK (vk := vk) H k w h2
  rw [← placeK_look l k 0]
  cases hp : placeK l k 0 with
  | none => rw [hp] at hf; cases c <;> simp [Instr.lookup, run_underlying ht, MapKept.run_getObj_map h1, H.check, hf, hz, Result.andThen]
  | some q => rw [hp] at hf; cases c <;> simp [Instr.lookup, run_underlying ht, MapKept.run_getObj_map h1, H.check, hf, Result.andThen]
theorem shows_set {K V : Type} {ek : K → Value} {vk : V → Value} {es : List MapEntry} {l : List (K × V)} (h : Shows ek vk es l) {j : Nat} {e : MapEntry} {k : K} {v : V} (hk : e.key = ek k) (hv : e.val = vk v) : Shows ek vk (es.set j e) (l.set j (k, v)) := by
  unfold Shows at h ⊢
  rw [List.map_set, List.map_set, h, hk, hv]
theorem mem_mapUpdate (i : Nat) {b : Nat} {l : List (K × V)} (H : Key P kt ek) (ht : P.underlying t = some (.map kt vt)) (hi : T[i]? = some (mapr ek vk b l)) (k : K) (v : V) {w : World} (hM : Mem w0 T w) :
    ∃ w', (Instr.mapUpdate t (.map (some b)) (ek k) (vk v)).run P w = .ok () w' ∧ Mem w0 (T.set i (mapr ek vk b (putK l k v))) w' := by
  have hmem := List.mem_of_getElem? hi
  obtain ⟨es, clock, h1, h2⟩ := hM.ok _ hmem
  have hlt : b < w.heap.size := hM.lt _ hmem b rfl
  have hf := run_findK (vk := vk) H k w h2
  have hup : ∀ o : Obj, (mapr ek vk b (putK l k v)).ok { w with heap := w.heap.setIfInBounds b o } → Mem w0 (T.set i (mapr ek vk b (putK l k v))) { w with heap := w.heap.setIfInBounds b o } := fun o hok =>
    hM.upd hi (r := mapr ek vk b l) ⟨rfl, rfl, rfl, by simp, fun q _ hq => by
      have : q ≠ b := hq
      simp [Ne.symm this]⟩ hok (fun q hq => ⟨.inl hq, by have hq' : q = b := hq; subst hq'; simpa using hlt⟩)
  cases hp : placeK l k 0 with
  | none =>
    rw [hp] at hf
    refine ⟨_, by simp [Instr.mapUpdate, run_underlying ht, MapKept.run_getObj_map h1, H.check, hf, MapKept.run_setObj_map _ h1, Result.andThen]; rfl, hup _ ⟨es.push ⟨ek k, vk v, clock⟩, clock + 1, by simp [hlt], ?_⟩⟩
    rw [placeK_none hp]
    unfold Shows at h2 ⊢
    simp [h2]
  | some q =>
    obtain ⟨j, u⟩ := q
    rw [hp] at hf
    obtain ⟨-, h4, h5⟩ := placeK_put (v := v) hp
    simp only [Nat.sub_zero] at h4 h5
    obtain ⟨p0, hp0, hpk⟩ := Option.map_eq_some_iff.1 h4
    have hj : j < es.size := by
      have h6 := congrArg List.length h2
      have h7 := (List.getElem?_eq_some_iff.1 hp0).1
      simp at h6; omega
    have hkey : es[j].key = ek k := by
      have h6 := congrArg (fun l => l[j]?) h2
      simp [hp0, hj] at h6
      rw [h6.1, hpk]
    refine ⟨_, by simp [Instr.mapUpdate, run_underlying ht, MapKept.run_getObj_map h1, H.check, hf, hj, hkey, Instr.keyThatStays, H.same, MapKept.run_setObj_map _ h1, Result.andThen]; rfl, hup _ ⟨_, clock, by simp [hlt]; rfl, ?_⟩⟩
    rw [h5, Array.toList_modify]
    rw [ChangeMaps.modify_eq_set _ _ _ es[j] (by simp [hj])]
    exact shows_set h2 rfl rfl
theorem gop_mapUpdate (i : Nat) {b : Nat} {l l' : List (K × V)} {T' : List Reg} (H : Key P kt ek) (ht : P.underlying t = some (.map kt vt)) (hi : T[i]? = some (mapr ek vk b l)) (k : K) (v : V)
    (hx : ev ρ x = .map (some b)) (hy : ev ρ y = ek k) (hz : ev ρ z = vk v) (hl : putK l k v = l') (hT : T.set i (mapr ek vk b l') = T')
    (h : gops P n w0 full rest N ρ T') : gops P n w0 full (⟨none, .mapUpdate t x y z, ty, pos, af, none⟩ :: rest) N ρ T :=
  gop_s (fun w hM => by
    obtain ⟨w', hr, hM'⟩ := mem_mapUpdate (P := P) i H ht hi k v hM
    refine ⟨w', ?_, h w' (by subst hl; subst hT; exact hM')⟩
    simp [execOp, hx, hy, hz, hr]) rfl rfl
theorem y_lookup (i : Nat) {b : Nat} {l : List (K × V)} {u : Value} (H : Key P kt ek) (ht : P.underlying t = some (.map kt vt)) {v0 : Value} (hz : ∀ w, (zeroValue vt).run P w = .ok v0 w) (hi : T[i]? = some (mapr ek vk b l)) (k : K) {c : Bool}
    (hx : ev ρ x = .map (some b)) (hy : ev ρ y = ek k) (hu : (if c then .tuple #[((look l k).map vk).getD v0, .bool (look l k).isSome] else ((look l k).map vk).getD v0) = u) :
    Yield P w0 T ρ ⟨dst, .lookup t x y c, ty, pos, af, gd⟩ u := fun w hM => by
  have h := run_lookK (P := P) (w0 := w0) i H ht hz hi k c hM
  subst hu
  simp [execOp, hx, hy, h]
theorem gop_makeMap {K V : Type} (ek : K → Value) (vk : V → Value) {d : Nat} (hlt : Nat.blt d n.n = true)
    (h : ∀ b, w0.heap.size ≤ b → gops P n w0 full rest N (upd ρ d (.map (some b))) (T ++ [mapr ek vk b []])) :
    gops P n w0 full (⟨some d, .makeMap t none, ty, pos, af, none⟩ :: rest) N ρ T :=
  Zl (fun w hM => ⟨.map (some w.heap.size), w.alloc (.map #[] 0), by
      simp [execOp, run_makeMap], h w.heap.size hM.low.size _ (hM.add ((Below.refl _ _).alloc (Nat.le_refl _) _) ⟨#[], 0, heap_alloc_new w _, rfl⟩ (fun b hb => by
        have hb' : b = w.heap.size := hb
        subst hb'; simp))⟩) rfl rfl hlt
end
end Go.Cf
namespace Go.Cf
open Go.RowKit
def pk (E : List Reg) : Reg :=
  ⟨fun b => ∃ r ∈ E, r.has b, fun w => (∀ r ∈ E, r.ok w) ∧ E.Pairwise (fun (r s : Reg) => ∀ b : Nat, r.has b → s.has b → False), fun w w' h hw => ⟨fun r hr => r.stays w w' (fun b hb => h b ⟨r, hr, hb⟩) (hw.1 r hr), hw.2⟩⟩
def sure (p : Prop) : Reg := ⟨fun _ => False, fun _ => p, fun _ _ _ h => h⟩
section
variable {w0 w w' : World} {T E G : List Reg} {P : Program}
theorem Mem.pk (h : Mem w0 (E ++ G) w) : Mem w0 (pk E :: G) w := by
  have hp := List.pairwise_append.1 h.disj
  refine ⟨h.low, ?_, ?_, ?_, ?_⟩
  · intro q hq
    rcases List.mem_cons.1 hq with rfl | hq
    · exact ⟨fun r hr => h.ok r (by simp [hr]), hp.1⟩
    · exact h.ok q (by simp [hq])
  · intro q hq b hb
    rcases List.mem_cons.1 hq with rfl | hq
    · obtain ⟨r, hr, hb⟩ := hb; exact h.lt r (by simp [hr]) b hb
    · exact h.lt q (by simp [hq]) b hb
  · intro q hq b hb
    rcases List.mem_cons.1 hq with rfl | hq
    · obtain ⟨r, hr, hb⟩ := hb; exact h.ge r (by simp [hr]) b hb
    · exact h.ge q (by simp [hq]) b hb
  · rw [List.pairwise_cons]
    exact ⟨fun s hs b h1 h2 => by obtain ⟨r, hr, h1⟩ := h1; exact hp.2.2 r hr s hs b h1 h2, hp.2.1⟩
theorem Mem.unpk (h : Mem w0 (Go.Cf.pk E :: G) w) : Mem w0 (E ++ G) w := by
  have hp := List.pairwise_cons.1 h.disj
  have h0 := h.ok (Go.Cf.pk E) (by simp)
  refine ⟨h.low, ?_, ?_, ?_, ?_⟩
  · intro q hq
    rcases List.mem_append.1 hq with hq | hq
    · exact h0.1 q hq
    · exact h.ok q (by simp [hq])
  · intro q hq b hb
    rcases List.mem_append.1 hq with hq | hq
    · exact h.lt (Go.Cf.pk E) (by simp) b ⟨q, hq, hb⟩
    · exact h.lt q (by simp [hq]) b hb
  · intro q hq b hb
    rcases List.mem_append.1 hq with hq | hq
    · exact h.ge (Go.Cf.pk E) (by simp) b ⟨q, hq, hb⟩
    · exact h.ge q (by simp [hq]) b hb
  · rw [List.pairwise_append]
    exact ⟨h0.2, hp.2, fun r hr s hs b h1 h2 => hp.1 s hs b ⟨r, hr, h1⟩ h2⟩
theorem Mem.sure {p : Prop} (h : Mem w0 T w) (hp : p) : Mem w0 (sure p :: T) w :=
  ⟨h.low, fun r hr => by rcases List.mem_cons.1 hr with rfl | hr; exact hp; exact h.ok r hr, fun r hr b hb => by rcases List.mem_cons.1 hr with rfl | hr; exact hb.elim; exact h.lt r hr b hb,
   fun r hr b hb => by rcases List.mem_cons.1 hr with rfl | hr; exact hb.elim; exact h.ge r hr b hb, List.pairwise_cons.2 ⟨fun _ _ _ hb => hb.elim, h.disj⟩⟩
theorem Mem.turn {b : Nat} {o o' : Obj} (i : Nat) (hi : T[i]? = some (box b o)) (h : Mem w0 T w) : Mem w0 (T.set i (box b o')) (w.putObj b o') := by
  have hlt : b < w.heap.size := h.lt _ (List.mem_of_getElem? hi) b rfl
  exact h.upd hi ⟨rfl, rfl, rfl, by simp, fun k _ hk => World.putObj_heap_other hk⟩ (World.putObj_heap_same hlt) (fun k hk => ⟨.inl hk, by have hk' : k = b := hk; subst hk'; simpa using hlt⟩)
theorem mem_obj (o : Obj) (hM : Mem w0 T w) : Mem w0 (T ++ [box w.heap.size o]) (w.alloc o) :=
  hM.add ((Below.refl _ _).alloc (Nat.le_refl _) _) (World.alloc_heap_new w _) (fun b hb => by
    have hb' : b = w.heap.size := hb
    subst hb'; simp)
end
def Turn {ι : Type} (J : Nat → Reg) (Jx : Nat → ι → Reg) (k : Nat) (b : Bool) (g : Reg) : Prop := if b = true then g = J (k + 1) else ∃ i, g = Jx k i
def ItersAt {α : Type} (P : Program) (w0 : World) (gf : FuncId) (lb : List Value) (encs : α → List Value) (xs : List α) (It : List Reg) : Prop :=
  ∀ (ι : Type) (W : World) (l : Nat) (J : Nat → Reg) (Jx : Nat → ι → Reg), Mem w0 (J 0 :: It) W →
    (∀ k x r W1, xs[k]? = some x → Mem w0 [J k, r] W1 → YieldAt Fence.wide 0 P l (encs x).toArray W1 fun e W' => ∃ b : Bool, e = .returned (.bool b) ∧ ∃ g, Turn J Jx k b g ∧ Mem w0 [g, r] W') →
    Calls P gf (.func (.yield l) #[] #[] :: lb).toArray W fun e W' => (∃ v, e = .returned v) ∧ (Mem w0 [J xs.length] W' ∨ ∃ k i, k < xs.length ∧ Mem w0 [Jx k i] W')
def Iters {α : Type} (P : Program) (gf : FuncId) (lb : List Value) (encs : α → List Value) (xs : List α) (It : List Reg) : Prop := ∀ w0, ItersAt P w0 gf lb encs xs It
section
variable {P : Program} {n : Fr} {w0 : World} {N : Env → World → Prop} {X : Nat → Env → World → Prop} {R : Env → World → Prop} {ρ : Env} {T E : List Reg} {full : Array Oper} {rest : List Oper} {o : Oper} {d : Nat} {c : Code}
  {ty : TypeId} {pos : String} {af : Array Edge} {x : Operand}
def Rounds {ι : Type} (P : Program) (w0 : World) (l : Nat) (J : Nat → Reg) (Jx : Nat → ι → Reg) (k : Nat) (vs : List Value) : Prop :=
  ∀ r W1, Mem w0 [J k, r] W1 → YieldAt Fence.wide 0 P l vs.toArray W1 fun e W' => ∃ b : Bool, e = .returned (.bool b) ∧ ∃ g, Turn J Jx k b g ∧ Mem w0 [g, r] W'
theorem gop_yield {ι : Type} {l k : Nat} {J : Nat → Reg} {Jx : Nat → ι → Reg} {args : Array Operand} {ats : Array TypeId} {vs : List Value} (hrd : n.rd = some none) (hv : ev ρ x = .func (.yield l) #[] #[]) (ha : args.toList.map (ev ρ) = vs)
    (hY : Rounds P w0 l J Jx k vs) (hlt : Nat.blt d n.n = true) (h : ∀ (b : Bool) (g : Reg), Turn J Jx k b g → gops P n w0 full rest N (upd ρ d (.bool b)) (g :: E)) :
    gops P n w0 full (⟨some d, .call { callee := .value x, args := args, argTypes := ats }, ty, pos, af, none⟩ :: rest) N ρ (J k :: E) := by
  intro w hM a hI
  unfold lw
  rw [hrd]
  have e : args.map (ev ρ) = vs.toArray := by rw [← ha, ← Array.toList_map, Array.toArray_toList]
  have hpk : Mem w0 [J k, pk E] w := (((hM.perm (List.perm_append_comm (l₁ := [J k]) (l₂ := E))).pk).perm (List.Perm.swap _ _ _))
  obtain ⟨fn, tmps, assign, body, hy, hR⟩ := hY (pk E) w hpk
  refine wpListIn_plain rfl fun K hK => ⟨fun _ _ => trivial, ?_⟩
  have hex : (execOp (ev ρ) ⟨some d, .call { callee := .value x, args := args, argTypes := ats }, ty, pos, af, none⟩).run P w = .ok (.round l fn tmps assign body) w := by
    simp [execOp, resolve, Deferred.ofValue, hv, invoke, e, hy]
  rw [Oper.semAt_eq _ _ _ (by simp), hI.eval, hex, Oper.uponIn_round]
  refine ⟨fun h => (by cases h), hR.mono ?_⟩
  rintro e2 W' ⟨b, rfl, g, hg, hM'⟩
  refine hK _ _ ?_
  have h2 := h b g hg W' ((hM'.perm (List.Perm.swap _ _ _)).unpk.perm List.perm_append_comm) _ (hI.put hlt (.bool b))
  unfold lw at h2
  rw [hrd] at h2
  exact h2
theorem gcallsI {f : FuncId} {fn : Func} {args : Array Value} {w : World} {R : Ending → World → Prop} {n : Nat}
    (hf : P.funcs[f]? = some fn) (hb : fn.body = some c) (hn : fn.ntmps = n) (hs : args.size ≤ n) (hM : Mem w0 T w)
    (h : gwp P ⟨n, [], some none⟩ w0 c (fun ρ w' => ∃ v, resOf P fn ρ w' v ∧ R (.returned v) w') (fun _ _ _ => False) (fun ρ w' => ∃ v, resOf P fn ρ w' v ∧ R (.returned v) w') (envOf args) T) :
    Calls P f args w R := by
  refine callsIn_wide.1 (callsIn_of_wp_marks (F := Fence.wide) (n := 0) hf hb trivial ?_)
  rw [hn]
  have hst := is_start args n hs
  refine wpIn_mono (h w hM _ ⟨hst.defers, hst.size, hst.val⟩) fun e a' w' q => ?_
  cases e with
  | normal =>
    obtain ⟨ρ, hI, v, hv, hR⟩ := q
    show LeavesInM _ _ _ _ _ _ a'.defers _ _
    rw [hI.defers]; exact ⟨v, hv _ hI.val, hR⟩
  | ret =>
    show LeavesInM _ _ _ _ _ _ a'.defers _ _
    obtain ⟨ρ, _, hv0, ⟨hd, v, hv, hR⟩ | ⟨_, hno, _⟩⟩ := q
    · rw [hd]; exact ⟨v, hv _ hv0, hR⟩
    · cases hno
  | exit i => obtain ⟨ρ, hI, hf⟩ := q; exact hf.elim
  | goto l => exact q.elim
  | panic c => exact q.elim
  | outgrown => exact q.elim
end
section
variable {P : Program} {w0 : World} {N : Env → World → Prop} {X : Nat → Env → World → Prop} {R : Env → World → Prop} {ρ : Env} {T : List Reg}
abbrev mark (D : Nat) : Deferred := { target := .collected D, args := #[] }
def Marked (D : Nat) (R : Env → World → Prop) (ρ : Env) (w : World) : Prop := w.heap[D]? = some (.deferred (some [])) ∧ R ρ (w.putObj D (.deferred none))
theorem UQ {D : Nat} (i : Nat) {T' : List Reg} (hi : T[i]? = some (box D (.deferred (some [])))) (hT : T.set i (box D (.deferred none)) = T') (h : Fin w0 R ρ T') : Fin w0 (Marked D R) ρ T := fun w hM =>
  ⟨hM.ok _ (List.mem_of_getElem? hi), h _ (by subst hT; exact hM.turn i hi)⟩
theorem zip_is {n : Nat} {a : Act} (hI : Is (.plain n) ρ a) : ∀ (ps : List Tmp) (vs : List Value) (t : Array Value) (σ : Env), (∀ p ∈ ps, p < n) → t.size = n → (∀ q, t.getD q undef = σ q) → ps.length = vs.length →
    ∃ t', (ps.zip vs).foldl (fun t (p, v) => t.setIfInBounds p v) t = t' ∧ t'.size = n ∧ ∀ q, t'.getD q undef = ((ps.zip vs).foldl (fun σ (p, v) => upd σ p v) σ) q
  | [], _, t, σ, _, h1, h2, _ => ⟨t, by simp, h1, by simpa using h2⟩
  | p :: ps, [], t, σ, _, h1, h2, h3 => by simp at h3
  | p :: ps, v :: vs, t, σ, h0, h1, h2, h3 => by
    have hp := h0 p (by simp)
    obtain ⟨t', e1, e2, e3⟩ := zip_is hI ps vs (t.setIfInBounds p v) (upd σ p v) (fun q hq => h0 q (by simp [hq])) (by simpa using h1) (fun q => by
      by_cases e : q = p
      · subst e
        have : q < t.size := Nat.lt_of_lt_of_eq hp h1.symm
        simp [upd_same, this]
      · rw [upd_other _ _ e, ← h2 q]
        simp only [Array.getD_eq_getD_getElem?]
        rw [Array.getElem?_setIfInBounds_ne (fun h => e h.symm)]) (by simpa using h3)
    exact ⟨t', by simpa using e1, e2, by simpa using e3⟩
def zipEnv (ρ : Env) (ps : List Tmp) (vs : List Value) : Env := (ps.zip vs).foldl (fun σ (p, v) => upd σ p v) ρ
def gthen (P : Program) (n : Fr) (w0 : World) (b y : Code) (N : Env → World → Prop) (X : Nat → Env → World → Prop) (R : Env → World → Prop) (ρ : Env) (T : List Reg) : Prop :=
  ∀ w, Mem w0 T w → ∀ a, Is n ρ a → cw n P b (Exit.then (cw n P y (Out n N X R)) (Out n N X R)) a w
theorem gseqAB {n : Fr} {x b y : Code} (h : ∀ N' : Env → World → Prop, (∀ ρ T, gthen P n w0 b y N X R ρ T → Fin w0 N' ρ T) → gwp P n w0 x N' X R ρ T) : gwp P n w0 (.seq (.seq x b) y) N X R ρ T := by
  intro w hM a ha
  refine cw_seq (cw_seq (KW (h (fun ρ w => ∀ a, Is n ρ a → cw n P b (Exit.then (cw n P y (Out n N X R)) (Out n N X R)) a w) (fun _ _ hg w hM => hg w hM) w hM a ha) fun e a' w' q => ?_))
  cases e with
  | normal => obtain ⟨ρ', h1, h2⟩ := q; exact h2 a' h1
  | exit i => exact q
  | ret => exact q
  | goto l => exact q
  | panic c => exact q
  | outgrown => exact q
theorem e_enter {f : FuncId} {fn : Func} (hf : P.funcs[f]? = some fn) (hb : fn.body.isSome = true) (hnm : (fn.name == "runtime.NumGoroutine") = false) (args : Array Value) (w : World) : (callFunc f args).run P w = .ok (.enter f args) w := by
  obtain ⟨c, hc⟩ := Option.isSome_iff_exists.1 hb
  have hnm' : ¬ fn.name = "runtime.NumGoroutine" := by simpa using hnm
  simp [callFunc, hf, hc, hnm']
theorem QZ {n : Fr} {b y : Code} (L : List (Nat × Value)) (hL : agree ρ L) (h : ∀ σ, gthen P n w0 b y N X R (updL σ L) T) : gthen P n w0 b y N X R ρ T := by
  rw [← Yi ρ L hL]; exact h ρ
theorem gthen_T {n : Fr} {b y : Code} (T' : List Reg) (hT : T = T') (h : gthen P n w0 b y N X R ρ T') : gthen P n w0 b y N X R ρ T := by subst hT; exact h
theorem grange {α : Type} {n i : Nat} {g : Operand} {ps : List Tmp} {assign body y : Code} {gf : FuncId} {lb : List Value} {encs : α → List Value} {xs : List α} {It : List Reg} {ι : Type} (Jl : Nat → List Reg) (Jxl : Nat → ι → List Reg)
    (hg : ev ρ g = .func (.func gf) #[] lb.toArray) (eg : ∀ args w, (callFunc gf args).run P w = .ok (.enter gf args) w) (hit : ItersAt P w0 gf lb encs xs It)
    (hT : Weak w0 T (Jl 0 ++ It)) (hps : ∀ p ∈ ps, p < n) (hen : ∀ x, (encs x).length = ps.length)
    (hround : ∀ (l k : Nat) (x : α) (q : Reg), xs[k]? = some x → ∀ N' : Env → World → Prop,
      (∀ ρ1 Tx, (∀ q2, gwp P ⟨n, [], some (some l)⟩ w0 body (fun _ w => Mem w0 (q2 :: Jl (k + 1)) w) (fun _ _ _ => False) (fun _ w => ∃ i, Mem w0 (q2 :: Jxl k i) w) ρ1 (q2 :: Tx)) → Fin w0 N' ρ1 (q :: Tx)) →
      gwp P ⟨n, [], some (some l)⟩ w0 assign N' (fun _ _ _ => False) (fun _ _ => False) (zipEnv ρ ps (encs x)) (q :: Jl k))
    (hdone : ∀ D q, gwp P ⟨n, [mark D], none⟩ w0 y (fun _ _ => False) (fun _ _ _ => False) (Marked D R) ρ (box D (.deferred (some [])) :: q :: Jl xs.length))
    (hstop : ∀ D q k i, k < xs.length → Fin w0 R ρ (box D (.deferred none) :: q :: Jxl k i)) :
    gthen P (.plain n) w0 (.block i (.rangeFunc g ps.toArray assign body)) y N X R ρ T := by
  intro w hM a ha
  refine cw_block ?_
  show Code.wp _ _ _ _ _
  refine (wpIn_wide (n := 0)).1 (wpIn_rangeFunc (F := Fence.wide) ?_)
  intro fn _
  obtain ⟨rec, hrec⟩ : ∃ rec : LoopState → Option Code → Loop, rec = fun st pe => { state := st, pending := pe, fn, tmps := a.tmps, params := ps.toArray, assign, body, defers := w.heap.size } := ⟨_, rfl⟩
  obtain ⟨W1, hW1⟩ : ∃ W1, (w.alloc (.deferred (some []))).alloc (.loop (rec .ready none)) = W1 := ⟨_, rfl⟩
  obtain ⟨D, hD⟩ : ∃ D, D = w.heap.size := ⟨_, rfl⟩
  obtain ⟨L, hL⟩ : ∃ L, L = w.heap.size + 1 := ⟨_, rfl⟩
  have hM1 : Mem w0 ((Jl 0 ++ It) ++ [box D (.deferred (some []))] ++ [box L (.loop (rec .ready none))]) W1 := by
    have h1 := mem_obj (.loop (rec .ready none)) (mem_obj (.deferred (some [])) (hT w hM))
    rw [hW1, World.size_alloc, ← hL, ← hD] at h1
    exact h1
  refine ⟨L, [mark D], W1, { target := .fn (.func gf) lb.toArray, args := #[.func (.yield L) #[] #[]] }, W1, gf, (.func (.yield L) #[] #[] :: lb).toArray, W1, ?_, ?_, fun _ _ => trivial, ?_, fun h => (by cases h), ?_⟩
  · rw [← hW1, hrec, hL, hD]; exact run_enterLoop_outer _ _ _ _ _
  · have hg' : a.eval g = .func (.func gf) #[] lb.toArray := by rw [ha.eval]; exact hg
    simp only [resolve, hg']
    simp [go_sem]
  · simp [invoke, go_sem, eg]
  refine callsIn_wide.2 ?_
  have h0 : Mem w0 (pk ([box D (.deferred (some [])), box L (.loop (rec .ready none))] ++ Jl 0) :: It) W1 := by
    refine Mem.pk (hM1.perm ?_)
    simp only [List.append_assoc, List.cons_append, List.nil_append]
    refine List.Perm.trans ?_ ((List.perm_append_comm (l₁ := Jl 0 ++ It) (l₂ := [box D (.deferred (some [])), box L (.loop (rec .ready none))])).trans ?_)
    · simp
    · simp
  refine (hit ι W1 L (fun k => pk ([box D (.deferred (some [])), box L (.loop (rec .ready none))] ++ Jl k)) (fun k i => pk ([box D (.deferred (some [])), box L (.loop (rec .done (some .ret)))] ++ Jxl k i)) h0 ?_).mono ?_
  · 
    intro k x r W2 hx hM2
    have hM3 : Mem w0 (box D (.deferred (some [])) :: box L (.loop (rec .ready none)) :: (Jl k ++ [r])) W2 := by simpa using hM2.unpk
    have hl : W2.heap[L]? = some (.loop (rec .ready none)) := hM3.ok (box L (.loop (rec .ready none))) (by simp)
    have hy := run_yield (P := P) (args := (encs x).toArray) hl (by rw [hrec]; simp [hen x])
    rw [hrec] at hy
    obtain ⟨t', e1, e2, e3⟩ := zip_is ha ps (encs x) a.tmps ρ hps ha.size ha.val (hen x).symm
    have e1' : ((ps.toArray.zip (encs x).toArray).foldl (fun tmps (p : Tmp × Value) => tmps.setIfInBounds p.1 p.2) a.tmps) = t' := by
      rw [← e1]; simp
    refine ⟨fn, t', assign, body, by rw [← e1']; exact hy, roundIn_of_wpIn trivial ?_⟩
    have hq1 : Mem w0 (pk [box D (.deferred (some [])), box L (.loop (rec .ready none)), r] :: Jl k) W2 := by
      refine Mem.pk (hM3.perm ?_)
      simp only [List.cons_append, List.nil_append]
      exact List.Perm.cons _ (List.Perm.cons _ (List.perm_append_comm (l₂ := [r])))
    have hw := hround L k x (pk [box D (.deferred (some [])), box L (.loop (rec .ready none)), r]) hx
      (fun ρ1 w1 => ∃ w2, (Instr.beginRound L).run P w1 = .ok () w2 ∧ ∀ a, Is ⟨n, [], some (some L)⟩ ρ1 a → body.wpIn (Fence.wide.inRound L) 0 P (roundPost P L fun e W' => ∃ b : Bool, e = .returned (.bool b) ∧ ∃ g,
        Turn (fun k => pk ([box D (.deferred (some [])), box L (.loop (rec .ready none))] ++ Jl k)) (fun k i => pk ([box D (.deferred (some [])), box L (.loop (rec .done (some .ret)))] ++ Jxl k i)) k b g ∧ Mem w0 [g, r] W') a w2) ?_ W2 hq1 { tmps := t', defers := [] } ⟨rfl, e2, e3⟩
    · refine wpIn_mono hw fun e a1 w1 q => ?_
      cases e with
      | normal => obtain ⟨ρ1, hI, w2, h1, h2⟩ := q; exact ⟨w2, h1, h2 a1 hI⟩
      | exit i => obtain ⟨_, _, hf⟩ := q; exact hf
      | ret => exact q.none
      | goto l => exact q
      | panic c => exact q
      | outgrown => exact q
    · 
      intro ρ1 Tx hb w1 hMx
      have hMx2 : Mem w0 (box D (.deferred (some [])) :: box L (.loop (rec .ready none)) :: r :: Tx) w1 := by simpa using hMx.unpk
      have hl1 : w1.heap[L]? = some (.loop (rec .ready none)) := hMx2.ok (box L (.loop (rec .ready none))) (by simp)
      have hbusy := hMx2.turn (o' := .loop { rec .ready none with state := .busy }) 1 rfl
      refine ⟨_, run_beginRound hl1 (by rw [hrec]), fun a2 hI2 => ?_⟩
      have hq2 : Mem w0 (pk [box D (.deferred (some [])), box L (.loop { rec .ready none with state := .busy }), r] :: Tx) (w1.putObj L (.loop { rec .ready none with state := .busy })) := Mem.pk hbusy
      refine wpIn_mono (hb (pk [box D (.deferred (some [])), box L (.loop { rec .ready none with state := .busy }), r]) _ hq2 a2 hI2) fun e a3 w3 q => ?_
      have fin : ∀ (jump : Option Code) (Z : List Reg), Mem w0 (pk [box D (.deferred (some [])), box L (.loop { rec .ready none with state := .busy }), r] :: Z) w3 →
          ∃ w4, (Instr.endRound L jump).run P w3 = .ok (.bool jump.isNone) w4 ∧ Mem w0 [pk ([box D (.deferred (some [])), box L (.loop (rec (if jump.isNone then .ready else .done) jump))] ++ Z), r] w4 := fun jump Z hZ => by
        have hZ2 : Mem w0 (box D (.deferred (some [])) :: box L (.loop { rec .ready none with state := .busy }) :: r :: Z) w3 := by simpa using hZ.unpk
        have hl3 : w3.heap[L]? = some (.loop { rec .ready none with state := .busy }) := hZ2.ok (box L (.loop { rec .ready none with state := .busy })) (by simp)
        have hend := run_endRound (P := P) jump hl3
        refine ⟨_, hend, ?_⟩
        have hZ3 := hZ2.turn (o' := .loop { { rec .ready none with state := .busy } with state := if jump.isNone then .ready else .done, pending := jump }) 1 rfl
        have er : ({ { rec .ready none with state := .busy } with state := if jump.isNone then .ready else .done, pending := jump } : Loop) = rec (if jump.isNone then .ready else .done) jump := by rw [hrec]
        rw [er] at hZ3 ⊢
        refine Mem.pk (hZ3.perm ?_)
        simp only [List.set_cons_succ, List.set_cons_zero, List.cons_append, List.nil_append]
        exact List.Perm.cons _ (List.Perm.cons _ (List.perm_append_comm (l₁ := [r])))
      cases e with
      | normal =>
        obtain ⟨_, _, h3⟩ := q
        obtain ⟨w4, h4, h5⟩ := fin none _ h3
        exact ⟨_, w4, h4, true, rfl, _, rfl, h5⟩
      | exit i => obtain ⟨_, _, hf⟩ := q; exact hf.elim
      | ret =>
        obtain ⟨_, _, _, ⟨_, i3, h3⟩ | ⟨_, hno, _⟩⟩ := q
        · obtain ⟨w4, h4, h5⟩ := fin (some .ret) _ h3
          exact ⟨_, w4, h4, false, rfl, _, ⟨i3, rfl⟩, h5⟩
        · cases hno
      | goto l => exact q.elim
      | panic c => exact q.elim
      | outgrown => exact q.elim
  · 
    rintro e W2 ⟨⟨v, rfl⟩, h1 | ⟨k, i0, hk, h1⟩⟩
    · have h2 : Mem w0 (box D (.deferred (some [])) :: box L (.loop (rec .ready none)) :: Jl xs.length) W2 := by simpa using h1.unpk
      have hl : W2.heap[L]? = some (.loop (rec .ready none)) := h2.ok (box L (.loop (rec .ready none))) (by simp)
      have h3 := h2.turn (o' := .loop { rec .ready none with state := .exhausted }) 1 rfl
      refine ⟨none, W2.putObj L (.loop { rec .ready none with state := .exhausted }), by have := run_endLoop (P := P) hl (by rw [hrec]; simp); exact this.trans (by subst hrec; rfl), ?_⟩
      have h4 := hdone D (box L (.loop { rec .ready none with state := .exhausted })) _ h3 { a with defers := [mark D] ++ a.defers } ⟨by rw [ha.defers]; rfl, ha.size, ha.val⟩
      refine wp_mono (wp_of_cw rfl h4) fun e a' w' q => ?_
      cases e with
      | normal => obtain ⟨_, _, hf⟩ := q; exact hf.elim
      | exit i => obtain ⟨_, _, hf⟩ := q; exact hf.elim
      | ret =>
        obtain ⟨ρ', h5, h6, ⟨h7, h8⟩ | ⟨h7, _⟩⟩ := q
        · exact ⟨ρ', h5, h6, .inr ⟨rfl, rfl, D, h7, h8.1, h8.2⟩⟩
        · cases h7
      | goto l => exact q
      | panic c => exact q
      | outgrown => exact q
    · have h2 : Mem w0 (box D (.deferred (some [])) :: box L (.loop (rec .done (some .ret)))   :: Jxl k i0) W2 := by simpa using h1.unpk
      have hl : W2.heap[L]? = some (.loop (rec .done (some .ret))) := h2.ok (box L (.loop (rec .done (some .ret)))) (by simp)
      have h3 := h2.turn (o' := .loop { rec .done (some .ret) with state := .exhausted }) 1 rfl
      have h4 := h3.turn (o' := .deferred none) 0 rfl
      refine ⟨some .ret, W2.putObj L (.loop { rec .done (some .ret) with state := .exhausted }), by have := run_endLoop (P := P) hl (by rw [hrec]; simp); exact this.trans (by subst hrec; rfl), ?_⟩
      refine wpIn_ret ?_
      exact ⟨ρ, ha.size, ha.val, .inr ⟨rfl, rfl, D, by rw [ha.defers]; rfl, h3.ok (box D (.deferred (some []))) (by simp), hstop D _ k i0 hk _ h4⟩⟩
end
end Go.Cf
namespace Go.Cf
open Go.RowKit
theorem Mem.known {w0 w : World} {T : List Reg} {p : Prop} (i : Nat) (hi : T[i]? = some (Go.Cf.sure p)) (h : Mem w0 T w) : p := h.ok _ (List.mem_of_getElem? hi)
theorem Mem.resure {w0 w : World} {T : List Reg} {p p' : Prop} (i : Nat) (hi : T[i]? = some (Go.Cf.sure p)) (hp : p') (h : Mem w0 T w) : Mem w0 (T.set i (Go.Cf.sure p')) w :=
  h.upd hi (Chg.of_below (Below.refl _ _)) hp (fun _ hb => hb.elim)
section
variable {P : Program} {w0 : World} {T : List Reg} {ρ : Env} {dst : Option Tmp} {ty : TypeId} {pos : String} {af : Array Edge} {gd : Option (Nat × Bool)} {x y : Operand} {t : TypeId}
theorem y_min {a b : Int} {ats : Array TypeId} (hx : ev ρ x = .int .i64 a) (hy : ev ρ y = .int .i64 b) :
    Yield P w0 T ρ ⟨dst, .call { callee := .builtin .min, args := #[x, y], argTypes := ats }, ty, pos, af, gd⟩ (.int .i64 (if b < a then b else a)) := fun w _ => by
  simp [execOp, resolve, invoke, builtin, hx, hy, Builtin.min_, Builtin.min2]
theorem y_min_l {a b : Int} {ats : Array TypeId} (hx : ev ρ x = .int .i64 a) (hy : ev ρ y = .int .i64 b) (h : a ≤ b) :
    Yield P w0 T ρ ⟨dst, .call { callee := .builtin .min, args := #[x, y], argTypes := ats }, ty, pos, af, gd⟩ (.int .i64 a) := by
  have := y_min (P := P) (w0 := w0) (T := T) (dst := dst) (ty := ty) (pos := pos) (af := af) (gd := gd) (ats := ats) hx hy
  rwa [if_neg (by omega)] at this
theorem y_extern {f : FuncId} {fn : Func} {args : Array Operand} {ats : Array TypeId} {vs : List Value} {e : Array Value → Sem Value} {v : Value} (hf : P.funcs[f]? = some fn) (hnm : (fn.name == "runtime.NumGoroutine") = false)
    (hb : fn.body.isNone = true) (hn : Extern.findNext fn = none) (he : Extern.find fn = some e) (ha : args.toList.map (ev ρ) = vs) (hr : ∀ w, (e vs.toArray).run P w = .ok v w) :
    Yield P w0 T ρ ⟨dst, .call { callee := .value (.func f), args := args, argTypes := ats }, ty, pos, af, gd⟩ v := fun w _ => by
  have e1 : args.map (ev ρ) = vs.toArray := by rw [← ha, ← Array.toList_map, Array.toArray_toList]
  have h := run_callFunc_extern (P := P) hf hnm hb hn he vs.toArray w
  rw [hr w] at h
  simp [execOp, resolve, Deferred.ofValue, ev, invoke, e1, h, Result.andThen]
end
end Go.Cf
namespace Go.Cf
open Go.RowKit
section
variable {P : Program} {w0 : World} {T : List Reg} {ρ : Env} {dst : Option Tmp} {ty : TypeId} {pos : String} {af : Array Edge} {gd : Option (Nat × Bool)} {x y : Operand} {t yt src d e : TypeId} {a b : Int}
theorem y_toInt (hs : (P.underlying src).isSome = true) (hd : P.underlying d = some (.int .i64)) (hx : ev ρ x = .int .u8 a) (h0 : 0 ≤ a) (h1 : a < 256) : Yield P w0 T ρ ⟨dst, .convert src d x, ty, pos, af, gd⟩ (.int .i64 a) := fun w _ => by
  have hk : P.intKind d = .i64 := by simp [Program.intKind, hd]
  have h := run_convert_int (P := P) w src d .u8 a hs (by rw [hk]; exact hd)
  rw [hk, wrap_in (show In64 a by unfold In64; omega)] at h
  simp [execOp, hx, h]
end
end Go.Cf
namespace Go.Cf
open Go.RowKit
section
variable {w0 : World} {T : List Reg}
variable {P : Program} {ρ : Env} {dst : Option Tmp} {ty : TypeId} {pos : String} {af : Array Edge} {gd : Option (Nat × Bool)} {x z : Operand} {t : TypeId}
theorem y_cat {yt : TypeId} {y : Operand} {a b : ByteArray} (hx : ev ρ x = .string a) (hy : ev ρ y = .string b) (h : a.size + b.size ≤ 9223372036854775807) :
    Yield P w0 T ρ ⟨dst, .binOp .add t x y yt, ty, pos, af, gd⟩ (.string (a ++ b)) := fun w _ => by
  have h1 : ¬ (((a.size + b.size : Nat) : Int) > IntKind.i64.max) := by
    have : IntKind.i64.max = 9223372036854775807 := by decide
    omega
  have h2 : (Op.stringOp .add a b).run P w = .ok (.string (a ++ b)) w := by
    unfold Op.stringOp
    simp only [if_neg h1]
    rfl
  simp only [execOp, go_sem, hx, hy]
  simp [h2]
end
end Go.Cf
namespace Go.Cf
open Go.RowKit
section
variable {P : Program} {w0 : World} {T : List Reg} {ρ : Env} {dst : Option Tmp} {ty : TypeId} {pos : String} {af : Array Edge} {gd : Option (Nat × Bool)} {x y : Operand} {t e : TypeId}
theorem y_max {a b : Int} {ats : Array TypeId} (hx : ev ρ x = .int .i64 a) (hy : ev ρ y = .int .i64 b) :
    Yield P w0 T ρ ⟨dst, .call { callee := .builtin .max, args := #[x, y], argTypes := ats }, ty, pos, af, gd⟩ (.int .i64 (max a b)) := fun w _ => by
  have h : max a b = if a < b then b else a := by split <;> omega
  rw [h]
  simp [execOp, resolve, invoke, builtin, hx, hy, Builtin.max_, Builtin.max2]
end
end Go.Cf
namespace Go.Cf
open Go.RowKit
def scanFrom {α : Type} (f : Nat → α → Int) : Nat → List α → Fault
  | _, [] => ⟨0, 0⟩
  | k, x :: l => if f k x = 0 then scanFrom f (k + 1) l else ⟨f k x, k⟩
def scan {α : Type} (f : Nat → α → Int) (l : List α) : Fault := scanFrom f 0 l
theorem scanFrom_ok {α : Type} (f : Nat → α → Int) : ∀ (l : List α) (m : Nat), (∀ j (h : j < l.length), f (m + j) l[j] = 0) → scanFrom f m l = ⟨0, 0⟩
  | [], _, _ => rfl
  | x :: l, m, h => by
    rw [scanFrom, if_pos (show f m x = 0 from h 0 (by simp))]
    exact scanFrom_ok f l (m + 1) fun j hj => by
      have := h (j + 1) (by simp; omega)
      rwa [show m + (j + 1) = m + 1 + j by omega, List.getElem_cons_succ] at this
theorem scanFrom_at {α : Type} (f : Nat → α → Int) : ∀ (l : List α) (m k : Nat) (hk : k < l.length), (∀ j (h : j < l.length), j < k → f (m + j) l[j] = 0) → f (m + k) l[k] ≠ 0 → scanFrom f m l = ⟨f (m + k) l[k], (m + k : Nat)⟩
  | [], _, _, hk, _, _ => absurd hk (by simp)
  | x :: l, m, 0, _, _, hne => by rw [scanFrom, if_neg (show f m x ≠ 0 from hne)]; rfl
  | x :: l, m, k + 1, hk, h, hne => by
    rw [scanFrom, if_pos (show f m x = 0 from h 0 (by simp) (by omega))]
    have := scanFrom_at f l (m + 1) k (by simpa using hk) (fun j hj hjk => by
      have := h (j + 1) (by simp; omega) (by omega)
      rwa [show m + (j + 1) = m + 1 + j by omega, List.getElem_cons_succ] at this) (by
      rwa [show m + (k + 1) = m + 1 + k by omega, List.getElem_cons_succ] at hne)
    rw [this, show m + (k + 1) = m + 1 + k by omega, List.getElem_cons_succ]
theorem Qy {α : Type} {f : Nat → α → Int} {l : List α} (h : ∀ j (h : j < l.length), f j l[j] = 0) : scan f l = ⟨0, 0⟩ := scanFrom_ok f l 0 fun j hj => by rw [Nat.zero_add]; exact h j hj
theorem Uf {α : Type} {f : Nat → α → Int} {l : List α} {k : Nat} (hk : k < l.length) (h : ∀ j (h : j < l.length), j < k → f j l[j] = 0) (hne : f k l[k] ≠ 0) : scan f l = ⟨f k l[k], k⟩ := by
  have := scanFrom_at f l 0 k hk (fun j hj hjk => by rw [Nat.zero_add]; exact h j hj hjk) (by rwa [Nat.zero_add])
  rwa [Nat.zero_add] at this
theorem scan_code {α : Type} {f : Nat → α → Int} {l : List α} : (scan f l).code = 0 ↔ ∀ j (h : j < l.length), f j l[j] = 0 := by
  constructor
  · intro h0
    apply Classical.byContradiction
    intro hn
    have hex : ∃ k, ∃ h : k < l.length, f k l[k] ≠ 0 := Classical.byContradiction fun hc => hn fun j hj => Classical.byContradiction fun hx => hc ⟨j, hj, hx⟩
    obtain ⟨k, ⟨hk, hne⟩, hmin⟩ : ∃ k, (∃ h : k < l.length, f k l[k] ≠ 0) ∧ ∀ j, j < k → ¬ ∃ h : j < l.length, f j l[j] ≠ 0 := by
      clear h0 hn
      obtain ⟨k, hk⟩ := hex
      induction k using Nat.strongRecOn with
      | _ k ih =>
        by_cases hc : ∃ j, j < k ∧ ∃ h : j < l.length, f j l[j] ≠ 0
        · obtain ⟨j, hj, hp⟩ := hc; exact ih j hj hp
        · exact ⟨k, hk, fun j hj hp => hc ⟨j, hj, hp⟩⟩
    rw [Uf hk (fun j hj hjk => Classical.byContradiction fun hx => hmin j hjk ⟨hj, hx⟩) hne] at h0
    exact hne h0
  · intro h; rw [Qy h]
theorem Wk {α : Type} {f : Nat → α → Int} {l : List α} : scan f l = ⟨0, 0⟩ ↔ ∀ j (h : j < l.length), f j l[j] = 0 := ⟨fun h => scan_code.1 (by rw [h]), Qy⟩
theorem Ux {α : Type} {f : Nat → α → Int} {l : List α} (h : (scan f l).code = 0) : scan f l = ⟨0, 0⟩ := Qy (scan_code.1 h)
def lineCode (s : ByteArray) : Int := if 80 < s.size then 2 else if 0 ≤ firstIdx s 10 then 5 else 0
def linesF (l : List ByteArray) : Fault := if 120 < l.length then ⟨2, -1⟩ else scan (fun _ s => lineCode s) l
theorem Ua {l : List ByteArray} (h : (linesF l).code = 0) : linesF l = ⟨0, 0⟩ := by
  unfold linesF at h ⊢
  split
  · rename_i h1; rw [if_pos h1] at h; cases h
  · rename_i h1; rw [if_neg h1] at h; exact Ux h
theorem Qu {l : List ByteArray} (h : linesF l = ⟨0, 0⟩) : l.length ≤ 120 := by
  unfold linesF at h
  split at h
  · cases h
  · omega
structure Hunk where
  at_ : Int
  old : List ByteArray
  new : List ByteArray
def Hunk.end_ (h : Hunk) : Int := h.at_ + h.old.length
def Hunk.growth (h : Hunk) : Int := h.new.length - h.old.length
def hunkC (h : Hunk) (e : Int) : Int :=
  if h.at_ < 0 ∨ 120 < h.at_ then 3 else if linesF h.old ≠ ⟨0, 0⟩ then (linesF h.old).code else if linesF h.new ≠ ⟨0, 0⟩ then (linesF h.new).code else
    if h.old.length + h.new.length = 0 ∨ h.at_ ≤ e then 5 else if 120 < h.end_ then 3 else 0
def prevEnd (hs : List Hunk) : Nat → Int
  | 0 => -1
  | k + 1 => match hs[k]? with
    | some h => h.end_
    | none => -1
def patchF (hs : List Hunk) : Fault := if 130 < hs.length then ⟨2, -1⟩ else scan (fun k h => hunkC h (prevEnd hs k)) hs
structure VHunk (h : Hunk) (e : Int) : Prop where
  lo : 0 ≤ h.at_
  hi : h.at_ ≤ 120
  old : linesF h.old = ⟨0, 0⟩
  new : linesF h.new = ⟨0, 0⟩
  some_ : h.old.length + h.new.length ≠ 0
  past : e < h.at_
  end_ : h.end_ ≤ 120
theorem VHunk.oldLen {h : Hunk} {e : Int} (v : VHunk h e) : h.old.length ≤ 120 := Qu v.old
theorem VHunk.newLen {h : Hunk} {e : Int} (v : VHunk h e) : h.new.length ≤ 120 := Qu v.new
theorem QY {h : Hunk} {e : Int} : hunkC h e = 0 ↔ VHunk h e := by
  unfold hunkC
  constructor
  · intro h0
    split at h0
    · cases h0
    · split at h0
      · rename_i h1 h2; exact absurd (Ua h0) h2
      · split at h0
        · rename_i h1 h2 h3; exact absurd (Ua h0) h3
        · split at h0
          · cases h0
          · split at h0
            · cases h0
            · rename_i h1 h2 h3 h4 h5
              exact ⟨by omega, by omega, Decidable.not_not.1 h2, Decidable.not_not.1 h3, by omega, by omega, by omega⟩
  · intro v
    rw [if_neg (by have := v.lo; have := v.hi; omega), if_neg (by simp [v.old]), if_neg (by simp [v.new]), if_neg (by have := v.some_; have := v.past; omega), if_neg (by have := v.end_; omega)]
structure PV (hs : List Hunk) : Prop where
  len : hs.length ≤ 130
  at_ : ∀ k (h : k < hs.length), VHunk hs[k] (prevEnd hs k)
theorem patchF_ok {hs : List Hunk} : patchF hs = ⟨0, 0⟩ ↔ PV hs := by
  unfold patchF
  constructor
  · intro h
    split at h
    · cases h
    · rename_i h1
      exact ⟨by omega, fun k hk => QY.1 (Wk.1 h k hk)⟩
  · intro v
    rw [if_neg (by have := v.len; omega)]
    exact Qy fun k hk => QY.2 (v.at_ k hk)
theorem Xu {hs : List Hunk} (h : (patchF hs).code = 0) : patchF hs = ⟨0, 0⟩ := by
  unfold patchF at h ⊢
  split
  · rename_i h1; rw [if_pos h1] at h; cases h
  · rename_i h1; rw [if_neg h1] at h; exact Ux h
theorem PV.prev {hs : List Hunk} {k : Nat} (h : k < hs.length) : prevEnd hs (k + 1) = hs[k].end_ := by
  rw [prevEnd, List.getElem?_eq_getElem h]
structure HB (h : Hunk) : Prop where
  lo : 0 ≤ h.at_
  hi : h.at_ ≤ 120
  old : h.old.length ≤ 120
  new : h.new.length ≤ 120
theorem PV.hb {hs : List Hunk} (v : PV hs) : ∀ k (h : k < hs.length), HB hs[k] := fun k h => ⟨(v.at_ k h).lo, (v.at_ k h).hi, (v.at_ k h).oldLen, (v.at_ k h).newLen⟩
def place : List Hunk → Int → Int → Int × Bool
  | [], line, g => (line + g, true)
  | h :: t, line, g => if line < h.at_ then (line + g, true) else if line < h.end_ then (h.at_ + g, false) else place t line (g + h.growth)
theorem place_drop {hs : List Hunk} {k : Nat} (h : k < hs.length) (line g : Int) : place (hs.drop k) line g =
    if line < hs[k].at_ then (line + g, true) else if line < hs[k].end_ then (hs[k].at_ + g, false) else place (hs.drop (k + 1)) line (g + hs[k].growth) := by
  rw [List.drop_eq_getElem_cons h, place]
def through : List (List Hunk) → Int → Int × Nat
  | [], line => (line, 0)
  | p :: ps, line => if (place p line 0).2 = true then ((through ps (place p line 0).1).1, (through ps (place p line 0).1).2 + 1) else (line, 0)
def isLine (n : Int) : Bool := decide (0 ≤ n) && decide (n < 120)
def secondF (f : Fault) (i : Int) : Fault := if f ≠ ⟨0, 0⟩ then ⟨f.code, i⟩ else ⟨0, 0⟩
def throughF (ps : List (List Hunk)) (line : Int) : Fault :=
  if 12 < ps.length then ⟨2, -1⟩ else if isLine line = false then ⟨3, -2⟩ else scan (fun _ p => (patchF p).code) ps
def throughV (ps : List (List Hunk)) (line : Int) : Int × Nat := if throughF ps line = ⟨0, 0⟩ then through ps line else (0, 0)
theorem place_bd : ∀ (hs : List Hunk) (line g : Int), (∀ h ∈ hs, HB h) → (place hs line g).2 = true → line + g - 120 * hs.length ≤ (place hs line g).1 ∧ (place hs line g).1 ≤ line + g + 120 * hs.length
  | [], line, g, _, _ => by simp [place]
  | h :: t, line, g, hb, hk => by
    have h1 := hb h (by simp)
    rw [place] at hk ⊢
    split
    · simp only [List.length_cons]; omega
    · rename_i h2
      rw [if_neg h2] at hk
      split
      · rename_i h3; rw [if_pos h3] at hk; cases hk
      · rename_i h3
        rw [if_neg h3] at hk
        have := place_bd t line (g + h.growth) (fun x hx => hb x (by simp [hx])) hk
        have e1 := h1.old
        have e2 := h1.new
        simp only [List.length_cons, Hunk.growth] at this ⊢
        omega
theorem PV.each {hs : List Hunk} (v : PV hs) : ∀ h ∈ hs, HB h := fun h hh => by
  obtain ⟨k, hk, rfl⟩ := List.getElem_of_mem hh
  exact v.hb k hk
theorem through_drop {ps : List (List Hunk)} {k : Nat} (h : k < ps.length) (line : Int) : through (ps.drop k) line =
    if (place ps[k] line 0).2 = true then ((through (ps.drop (k + 1)) (place ps[k] line 0).1).1, (through (ps.drop (k + 1)) (place ps[k] line 0).1).2 + 1) else (line, 0) := by
  rw [List.drop_eq_getElem_cons h, through]
theorem second_ne {p : List Hunk} {i : Int} (h : secondF (patchF p) i ≠ ⟨0, 0⟩) : (patchF p).code ≠ 0 ∧ secondF (patchF p) i = ⟨(patchF p).code, i⟩ := by
  unfold secondF at h ⊢
  split
  · rename_i h1; exact ⟨fun h2 => h1 (Xu h2), rfl⟩
  · rename_i h1; rw [if_neg h1] at h; exact absurd rfl h
theorem second_eq {p : List Hunk} {i : Int} (h : secondF (patchF p) i = ⟨0, 0⟩) : patchF p = ⟨0, 0⟩ := by
  apply Classical.byContradiction
  intro h1
  rw [secondF, if_pos h1] at h
  exact h1 (Xu (congrArg Fault.code h))
theorem isLine_t {n : Int} (h : isLine n = true) : 0 ≤ n ∧ n < 120 := by simpa [isLine] using h
end Go.Cf
namespace Go.Cf
open Go.RowKit
structure PN where
  kind : Int
  number : Int
  left : Int
  right : Int
  deriving DecidableEq
abbrev pnCells (a : PN) : List Value := [.int .i64 a.kind, .int .i64 a.number, .int .i64 a.left, .int .i64 a.right]
abbrev pnV (a : PN) : Value := .agg #[.int .i64 a.kind, .int .i64 a.number, .int .i64 a.left, .int .i64 a.right]
theorem wide_pn : Wide pnCells 4 := fun _ => ⟨rfl, by simp [pnCells, Value.oneCell']⟩
def opN (k : Int) : Nat := if k = 5 then 1 else if k = 6 ∨ k = 7 then 2 else 0
def mostN (k : Int) : Int := if k = 1 then 8 else if k = 4 then 7 else 0
theorem opN_le (k : Int) : opN k ≤ 2 := by unfold opN; split; omega; split <;> omega
abbrev noPN : PN := ⟨0, 0, 0, 0⟩
def nAt (l : List PN) (i : Nat) : PN := l[i]?.getD noPN
theorem nAt_at {l : List PN} {i : Nat} (h : i < l.length) : nAt l i = l[i] := by rw [nAt, List.getElem?_eq_getElem h]; rfl
def want (r : List Int) (m i : Nat) : Int := (r.drop (r.length - m))[i]?.getD 0
def chk (n : PN) (r : List Int) : Int :=
  if n.kind < 1 ∨ 7 < n.kind then 4 else if n.number < 0 ∨ mostN n.kind < n.number then 3 else if r.length < opN n.kind then 5
  else if n.left ≠ want r (opN n.kind) 0 ∨ n.right ≠ want r (opN n.kind) 1 then 5 else 0
def rootsTo (l : List PN) : Nat → List Int
  | 0 => []
  | k + 1 => (rootsTo l k).take ((rootsTo l k).length - opN (nAt l k).kind) ++ [(k : Int)]
def foldTo {β : Type} (f : PN → List β → β) (l : List PN) : Nat → List β
  | 0 => []
  | k + 1 => foldTo f l k ++ [f (nAt l k) (foldTo f l k)]
section
variable {β : Type} {f : PN → List β → β} {l : List PN}
theorem Mq : ∀ k, (foldTo f l k).length = k
  | 0 => rfl
  | k + 1 => by rw [foldTo, List.length_append, Mq k]; rfl
def valAt (f : PN → List β → β) (l : List PN) (i : Nat) : β := f (nAt l i) (foldTo f l i)
theorem UJ : ∀ (m i : Nat), i < m → (foldTo f l m)[i]? = some (valAt f l i)
  | 0, i, h => by omega
  | m + 1, i, h => by
    rw [foldTo]
    rcases Nat.lt_or_ge i m with h1 | h1
    · rw [List.getElem?_append_left (by rw [Mq]; exact h1)]; exact UJ m i h1
    · obtain rfl : i = m := by omega
      rw [List.getElem?_append_right (by rw [Mq]; exact Nat.le_refl _), Mq, Nat.sub_self]; rfl
end
def gI (out : List Int) (i : Int) : Int := out[i.toNat]?.getD 0
def dN (n : PN) (out : List Int) : Int := if opN n.kind = 0 then 1 else if opN n.kind = 1 then gI out n.left + 1 else max (gI out n.left + 1) (gI out n.right + 1)
def depL (l : List PN) : Int := valAt dN l (l.length - 1)
structure PFacts where
  score : Int
  owners : Bool
  tests : Bool
  users : Int
def factsBad (F : PFacts) : Prop := F.score < -1000000000 ∨ 1000000000 < F.score ∨ F.users < 0 ∨ 255 < F.users
instance (F : PFacts) : Decidable (factsBad F) := by unfold factsBad; infer_instance
inductive Tr
  | leaf (k n : Int)
  | neg (t : Tr)
  | bin (k : Int) (a b : Tr)
def Tr.size : Tr → Nat
  | .leaf _ _ => 1
  | .neg t => t.size + 1
  | .bin _ a b => a.size + b.size + 1
def Tr.depth : Tr → Int
  | .leaf _ _ => 1
  | .neg t => t.depth + 1
  | .bin _ a b => max (a.depth + 1) (b.depth + 1)
def Tr.ok : Tr → Prop
  | .leaf k n => 1 ≤ k ∧ k ≤ 4 ∧ 0 ≤ n ∧ n ≤ mostN k
  | .neg t => t.ok
  | .bin k a b => (k = 6 ∨ k = 7) ∧ a.ok ∧ b.ok
def post : Tr → Nat → List PN
  | .leaf k n, _ => [⟨k, n, 0, 0⟩]
  | .neg t, off => post t off ++ [⟨5, 0, (off + t.size : Nat) - 1, 0⟩]
  | .bin k a b, off => post a off ++ post b (off + a.size) ++ [⟨k, 0, (off + a.size : Nat) - 1, (off + a.size + b.size : Nat) - 1⟩]
theorem Tr.pos (t : Tr) : 0 < t.size := by cases t <;> simp [Tr.size]
theorem Ql : ∀ (t : Tr) (off : Nat), (post t off).length = t.size
  | .leaf _ _, _ => rfl
  | .neg t, off => by rw [post, List.length_append, Ql t]; rfl
  | .bin _ a b, off => by rw [post, List.length_append, List.length_append, Ql a, Ql b]; rfl
def ends : List Tr → Nat → List Int
  | [], _ => []
  | t :: ts, off => ((off + t.size : Nat) - 1 : Int) :: ends ts (off + t.size)
def At (l : List PN) (i : Nat) (t : Tr) : Prop := ∃ off, i + 1 = off + t.size ∧ (l.drop off).take t.size = post t off
theorem At.lt {l : List PN} {i : Nat} {t : Tr} (h : At l i t) : i < l.length := by
  obtain ⟨off, h1, h2⟩ := h
  have := congrArg List.length h2
  rw [Ql, List.length_take, List.length_drop] at this
  have := t.pos
  omega
theorem Xg {α : Type} {l a b : List α} {off m n : Nat} (h : (l.drop off).take m = a ++ b) (ha : a.length = n) : (l.drop off).take n = a ∧ (l.drop (off + n)).take b.length = b := by
  have hm : a.length + b.length ≤ m := by
    have := congrArg List.length h
    rw [List.length_take, List.length_append] at this; omega
  constructor
  · have := congrArg (List.take n) h
    rw [List.take_take, Nat.min_eq_left (by omega), ← ha, List.take_left] at this
    rw [← ha]; exact this
  · have := congrArg (List.drop n) h
    rw [← ha, List.drop_left, List.drop_take, List.drop_drop] at this
    rw [← ha]
    have h2 := congrArg (List.take b.length) this
    rw [List.take_take, Nat.min_eq_left (by omega), List.take_length] at h2
    exact h2
theorem one_at {α : Type} {l : List α} {off : Nat} {x : α} (h : (l.drop off).take 1 = [x]) : l[off]? = some x := by
  have := congrArg (fun z => z[0]?) h
  simpa [List.getElem?_take, List.getElem?_drop] using this
theorem At.leaf {l : List PN} {i : Nat} {k n : Int} (h : At l i (.leaf k n)) : nAt l i = ⟨k, n, 0, 0⟩ := by
  obtain ⟨off, h1, h2⟩ := h
  simp only [Tr.size] at h1 h2
  obtain rfl : off = i := by omega
  rw [nAt, one_at h2]; rfl
theorem At.neg {l : List PN} {i : Nat} {t : Tr} (h : At l i (.neg t)) : 1 ≤ i ∧ nAt l i = ⟨5, 0, (i : Int) - 1, 0⟩ ∧ At l (i - 1) t := by
  obtain ⟨off, h1, h2⟩ := h
  simp only [Tr.size] at h1 h2
  have hp := t.pos
  obtain ⟨h3, h4⟩ := Xg h2 (Ql t off)
  have e : off + t.size = i := by omega
  rw [e] at h4
  refine ⟨by omega, ?_, off, by omega, h3⟩
  rw [nAt, one_at h4]; rfl
theorem At.bin {l : List PN} {i : Nat} {k : Int} {a b : Tr} (h : At l i (.bin k a b)) : ∃ m : Nat, m + 1 ≤ i - 1 ∧ 1 ≤ i ∧ nAt l i = ⟨k, 0, (m : Int), (i : Int) - 1⟩ ∧ At l m a ∧ At l (i - 1) b := by
  obtain ⟨off, h1, h2⟩ := h
  simp only [Tr.size] at h1 h2
  have hp := a.pos
  have hq := b.pos
  obtain ⟨h3, h4⟩ := Xg h2 (show (post a off ++ post b (off + a.size)).length = a.size + b.size by rw [List.length_append, Ql, Ql])
  obtain ⟨h5, h6⟩ := Xg h3 (Ql a off)
  rw [Ql] at h6
  have e : off + (a.size + b.size) = i := by omega
  rw [e] at h4
  refine ⟨off + a.size - 1, by omega, by omega, ?_, ⟨off, by omega, h5⟩, ⟨off + a.size, by omega, h6⟩⟩
  rw [nAt, one_at h4]
  show PN.mk k 0 _ _ = _
  congr 1 <;> omega
theorem At.whole (t : Tr) : At (post t 0) (t.size - 1) t := ⟨0, by have := t.pos; omega, by rw [List.drop_zero, ← Ql t 0, List.take_length]⟩
theorem gI_fold {f : PN → List Int → Int} {l : List PN} {m i : Nat} (h : m < i) : gI (foldTo f l i) (m : Int) = valAt f l m := by
  rw [gI, Int.toNat_natCast, UJ i m h]; rfl
theorem dep_at {l : List PN} : ∀ (t : Tr) (i : Nat), t.ok → At l i t → valAt dN l i = t.depth
  | .leaf k n, i, ho, h => by
    obtain ⟨h1, h2, _⟩ := ho
    rw [valAt, h.leaf, dN, Tr.depth, if_pos (by unfold opN; rw [if_neg (by simp only; omega), if_neg (by simp only; omega)])]
  | .neg t, i, ho, h => by
    obtain ⟨h1, h2, h3⟩ := h.neg
    have e1 : opN 5 = 1 := rfl
    rw [valAt, h2, dN, Tr.depth]
    simp only [e1]
    rw [if_neg (show ¬ (1 : Nat) = 0 by decide), if_pos trivial, show (i : Int) - 1 = ((i - 1 : Nat) : Int) by omega, gI_fold (by omega), dep_at t _ ho h3]
  | .bin k a b, i, ho, h => by
    obtain ⟨m, h0, h1, h2, h3, h4⟩ := h.bin
    have e : opN k = 2 := by rcases ho.1 with rfl | rfl <;> rfl
    rw [valAt, h2, dN, Tr.depth]
    simp only [e]
    rw [if_neg (show ¬ (2 : Nat) = 0 by decide), if_neg (show ¬ (2 : Nat) = 1 by decide), show (i : Int) - 1 = ((i - 1 : Nat) : Int) by omega, gI_fold (by omega), gI_fold (by omega), dep_at a _ ho.2.1 h3, dep_at b _ ho.2.2 h4]
structure IsTr (l : List PN) (t : Tr) : Prop where
  ok : t.ok
  eq : l = post t 0
  size : t.size ≤ 24
  depth : t.depth ≤ 12
theorem IsTr.len {l : List PN} {t : Tr} (h : IsTr l t) : l.length = t.size := by rw [h.eq, Ql]
theorem IsTr.at_ {l : List PN} {t : Tr} (h : IsTr l t) : At l (l.length - 1) t := by rw [h.len, h.eq]; exact At.whole t
end Go.Cf
namespace Go.Cf
open Go.RowKit
def pad {α : Type} (e : α) (F : List α) (n : Nat) : List α := F ++ List.replicate (n - F.length) e
section
variable {α : Type} {e x y : α} {F : List α} {n i k : Nat}
theorem Za (h : F.length ≤ n) : (pad e F n).length = n := by simp [pad]; omega
theorem pad_nil (n : Nat) (e : α) : pad e [] n = List.replicate n e := by simp [pad]
theorem pad_at (hk : F.length = k) (h : k < n) : (pad e F n)[k]? = some e := by
  subst hk
  rw [pad, List.getElem?_append_right (Nat.le_refl _), Nat.sub_self, List.getElem?_replicate, if_pos (by omega)]
theorem pad_old (h : i < F.length) : (pad e F n)[i]? = F[i]? := by rw [pad, List.getElem?_append_left h]
theorem pad_set (hk : F.length = k) (h : k < n) : (pad e F n).set k x = pad e (F ++ [x]) n := by
  subst hk
  obtain ⟨m, hm⟩ : ∃ m, n - F.length = m + 1 := ⟨n - F.length - 1, by omega⟩
  rw [pad, pad, hm, List.set_append_right _ _ (Nat.le_refl _), Nat.sub_self, List.replicate_succ, List.set_cons_zero, show n - (F ++ [x]).length = m by simp; omega]
  simp
theorem pad_set2 (hk : F.length = k) : (pad e (F ++ [x]) n).set k y = pad e (F ++ [y]) n := by
  subst hk
  rw [pad, pad, List.append_assoc, List.append_assoc, List.set_append_right _ _ (Nat.le_refl _), Nat.sub_self]
  simp
theorem pad_new (hk : F.length = k) : (pad e (F ++ [x]) n)[k]? = some x := by
  subst hk
  rw [pad_old (by simp)]; simp
end
def Linked (l : List PN) : Prop := ∀ i (h : i < l.length), (0 < opN l[i].kind → 0 ≤ l[i].left ∧ l[i].left < i) ∧ (1 < opN l[i].kind → 0 ≤ l[i].right ∧ l[i].right < i)
theorem gI_get {F : List Int} {j : Int} (h : j.toNat < F.length) : F[j.toNat]? = some (gI F j) := by
  rw [gI, List.getElem?_eq_getElem h]; rfl
def d1 (n : PN) (F : List Int) : Int := if opN n.kind = 0 then 1 else gI F n.left + 1
theorem dN_one {n : PN} {F : List Int} (h : opN n.kind ≤ 1) : dN n F = d1 n F := by
  unfold dN d1
  by_cases h0 : opN n.kind = 0
  · rw [if_pos h0, if_pos h0]
  · rw [if_neg h0, if_neg h0, if_pos (by omega)]
theorem dN_two {n : PN} {F : List Int} (h : 1 < opN n.kind) : dN n F = max (d1 n F) (gI F n.right + 1) := by
  unfold dN d1
  rw [if_neg (by omega), if_neg (by omega), if_neg (by omega)]
theorem dep_range {l : List PN} (hl : Linked l) : ∀ k, k ≤ l.length → ∀ i, i < k → 1 ≤ valAt dN l i ∧ valAt dN l i ≤ i + 1
  | 0, _, i, h => by omega
  | k + 1, hk, i, h => by
    rcases Nat.lt_or_ge i k with h1 | h1
    · exact dep_range hl k (by omega) i h1
    · obtain rfl : i = k := by omega
      have ih := dep_range hl i (by omega)
      obtain ⟨h2, h3⟩ := hl i (by omega)
      have hn : nAt l i = l[i] := nAt_at (by omega)
      have key : ∀ j : Int, 0 ≤ j → j < i → 1 ≤ gI (foldTo dN l i) j ∧ gI (foldTo dN l i) j ≤ i := by
        intro j h4 h5
        obtain ⟨m, rfl⟩ := Int.eq_ofNat_of_zero_le h4
        have h6 := ih m (by omega)
        have h7 : gI (foldTo dN l i) (m : Int) = valAt dN l m := gI_fold (by omega)
        have h8 : gI (foldTo dN l i) (Int.ofNat m) = valAt dN l m := h7
        show 1 ≤ gI (foldTo dN l i) (Int.ofNat m) ∧ _
        rw [h8]; omega
      rw [valAt, hn, dN]
      split
      · omega
      · rename_i c1
        have := key _ (h2 (by omega)).1 (h2 (by omega)).2
        split
        · omega
        · rename_i c2
          have := opN_le l[i].kind
          have := key _ (h3 (by omega)).1 (h3 (by omega)).2
          omega
theorem gI_range {l : List PN} (hl : Linked l) {k : Nat} (hk : k ≤ l.length) {j : Int} (h0 : 0 ≤ j) (h1 : j < k) : 1 ≤ gI (foldTo dN l k) j ∧ gI (foldTo dN l k) j ≤ k := by
  obtain ⟨m, hm⟩ := Int.eq_ofNat_of_zero_le h0
  have h6 := dep_range hl k hk m (by omega)
  have h7 : gI (foldTo dN l k) (m : Int) = valAt dN l m := gI_fold (by omega)
  rw [hm, h7]; omega
end Go.Cf
namespace Go.Cf
theorem Zq (l : List PN) : ∀ k, ∀ x ∈ rootsTo l k, 0 ≤ x ∧ x < k
  | 0, x, h => by cases h
  | k + 1, x, h => by
    rw [rootsTo] at h
    rcases List.mem_append.1 h with h | h
    · have := Zq l k x (List.mem_of_mem_take h)
      omega
    · rw [List.mem_singleton.1 h]; omega
theorem want_mem {r : List Int} {m i : Nat} (h : m ≤ r.length) (hi : i < m) : want r m i ∈ r := by
  have h1 : r.length - m + i < r.length := by omega
  have e : want r m i = r[r.length - m + i] := by
    rw [want, List.getElem?_drop, List.getElem?_eq_getElem h1]; rfl
  rw [e]; exact List.getElem_mem h1
theorem chk_zero {n : PN} {r : List Int} (h : chk n r = 0) : 1 ≤ n.kind ∧ n.kind ≤ 7 ∧ 0 ≤ n.number ∧ n.number ≤ mostN n.kind ∧ opN n.kind ≤ r.length ∧ n.left = want r (opN n.kind) 0 ∧ n.right = want r (opN n.kind) 1 := by
  unfold chk at h
  split at h
  · cases h
  split at h
  · cases h
  split at h
  · cases h
  split at h
  · cases h
  · refine ⟨by omega, by omega, by omega, by omega, by omega, Classical.byContradiction fun h => ?_, Classical.byContradiction fun h => ?_⟩ <;> simp_all
theorem linked_of {l : List PN} (h : ∀ j (h : j < l.length), chk l[j] (rootsTo l j) = 0) : Linked l := by
  intro i hi
  obtain ⟨_, _, _, _, h1, h2, h3⟩ := chk_zero (h i hi)
  refine ⟨fun h4 => ?_, fun h4 => ?_⟩
  · rw [h2]; exact Zq l i _ (want_mem h1 h4)
  · rw [h3]; exact Zq l i _ (want_mem h1 h4)
end Go.Cf
namespace Go.Cf
open Go.RowKit
theorem i64_and1 (n : Int) : bits .and .i64 n 1 = n % 2 := by
  have h1 : (BitVec.ofInt 64 1).toNat = 2 ^ 1 - 1 := by decide
  have key : (BitVec.ofInt 64 n &&& BitVec.ofInt 64 1).toNat = (n % ((2 ^ 64 : Nat) : Int)).toNat % 2 ^ 1 := by
    rw [BitVec.toNat_and, BitVec.toNat_ofInt, h1, Nat.and_two_pow_sub_one_eq_mod]
  show IntKind.i64.wrap ((BitVec.ofInt 64 n &&& BitVec.ofInt 64 1).toNat : Nat) = n % 2
  rw [key, IntKind.wrap_i64]
  omega
section
variable {P : Program} {w0 : World} {T : List Reg} {ρ : Env} {dst : Option Tmp} {ty t yt : TypeId} {pos : String} {af : Array Edge} {gd : Option (Nat × Bool)} {x y : Operand} {a b : Int}
theorem y_and1 (hx : ev ρ x = .int .i64 a) (hy : ev ρ y = .int .i64 1) : Yield P w0 T ρ ⟨dst, .binOp .and t x y yt, ty, pos, af, gd⟩ (.int .i64 (a % 2)) := fun _ _ => by
  simp [execOp, go_sem, hx, hy, i64_and1]
end
end Go.Cf
namespace Go.Cf
open Go.RowKit
abbrev Bs := List UInt8
def bsOf (s : ByteArray) : Bs := s.data.toList
def baOf (l : Bs) : ByteArray := ⟨l.toArray⟩
theorem bsOf_baOf (l : Bs) : bsOf (baOf l) = l := rfl
theorem baOf_bsOf (s : ByteArray) : baOf (bsOf s) = s := by cases s; simp [baOf, bsOf]
theorem JM (s : ByteArray) : (bsOf s).length = s.size := by simp [bsOf]
theorem baOf_size (l : Bs) : (baOf l).size = l.length := by simp [baOf, ByteArray.size]
theorem bs_inj {a b : ByteArray} (h : bsOf a = bsOf b) : a = b := by rw [← baOf_bsOf a, h, baOf_bsOf]
theorem bsOf_extract (s : ByteArray) (a b : Nat) : bsOf (s.extract a b) = ((bsOf s).drop a).take (b - a) := by
  simp only [bsOf, ByteArray.data_extract, Array.toList_extract, List.extract_eq_take_drop]
def splitL : Bs → List Bs
  | [] => [[]]
  | c :: r => if c = 47 then [] :: splitL r else match splitL r with
    | h :: t => (c :: h) :: t
    | [] => [[c]]
theorem splitL_none : ∀ (l : Bs), (∀ c ∈ l, c ≠ 47) → splitL l = [l]
  | [], _ => rfl
  | c :: r, h => by
    rw [splitL, if_neg (h c (by simp)), splitL_none r (fun x hx => h x (by simp [hx]))]
theorem splitL_len : ∀ l : Bs, (splitL l).length ≤ l.length + 1
  | [] => by simp [splitL]
  | c :: r => by
    have ih := splitL_len r
    simp only [splitL]
    split
    · simp; omega
    · split
      · rename_i h; rw [h] at ih; simp at ih ⊢; omega
      · simp
def cutS (s : ByteArray) : List ByteArray := (splitL (bsOf s)).map baOf
def letterB (n : Nat) : Bool := decide ((97 ≤ n ∧ n ≤ 122) ∨ (65 ≤ n ∧ n ≤ 90) ∨ (48 ≤ n ∧ n ≤ 57) ∨ n = 46 ∨ n = 95 ∨ n = 45)
def strEq (a b : ByteArray) : Bool := a.toList == b.toList
def nameOk (s : ByteArray) : Bool := (List.range s.size).all (fun i => letterB (byteAt s i)) && (!strEq s ⟨#[]⟩ && !strEq s ⟨#[46]⟩ && !strEq s ⟨#[46, 46]⟩)
theorem nameOk_bad {s : ByteArray} {k : Nat} (h : k < s.size) (hl : letterB (byteAt s k) = false) : nameOk s = false := by
  unfold nameOk
  rw [Bool.and_eq_false_iff]
  left
  rw [List.all_eq_false]
  exact ⟨k, List.mem_range.2 h, by simp [hl]⟩
theorem nameOk_all {s : ByteArray} (h : ∀ j, j < s.size → letterB (byteAt s j) = true) : nameOk s = (!strEq s ⟨#[]⟩ && !strEq s ⟨#[46]⟩ && !strEq s ⟨#[46, 46]⟩) := by
  unfold nameOk
  rw [List.all_eq_true.2 (fun j hj => h j (List.mem_range.1 hj)), Bool.true_and]
def pathOk (s : ByteArray) : Bool := (cutS s).all nameOk && decide (s.size ≤ 60)
theorem cutS_len (s : ByteArray) : (cutS s).length ≤ s.size + 1 := by
  have := splitL_len (bsOf s)
  rw [JM] at this
  simpa [cutS] using this
theorem splitL_part : ∀ (l : Bs) (p : Bs), p ∈ splitL l → p.length ≤ l.length
  | [], p, h => by simp [splitL] at h; simp [h]
  | c :: r, p, h => by
    have ih := splitL_part r
    simp only [splitL] at h
    split at h
    · rcases List.mem_cons.1 h with rfl | h
      · simp
      · have := ih p h; simp; omega
    · split at h
      · rename_i hh tt he
        rcases List.mem_cons.1 h with rfl | h
        · have := ih hh (by rw [he]; simp); simp; omega
        · have := ih p (by rw [he]; simp [h]); simp; omega
      · rw [List.mem_singleton.1 h]; simp
theorem KX {s x : ByteArray} (h : x ∈ cutS s) {n : Nat} (hs : s.size ≤ n) : x.size ≤ n := by
  obtain ⟨p, hp, rfl⟩ := List.mem_map.1 h
  have := splitL_part _ _ hp
  rw [JM] at this
  rw [baOf_size]; omega
abbrev sStars : ByteArray := ⟨#[42, 42]⟩
def wildBad (s : ByteArray) (i : Nat) : Bool := decide (byteAt s i = 42) && (decide (0 < i) && decide (byteAt s (i - 1) = 42))
def charBad (s : ByteArray) (i : Nat) : Bool := decide (byteAt s i ≠ 42) && (decide (byteAt s i ≠ 63) && !letterB (byteAt s i))
def scanP (s : ByteArray) : Nat → Nat
  | 0 => 0
  | m + 1 => if wildBad s (s.size - (m + 1)) then 1 else if charBad s (s.size - (m + 1)) then 12 else scanP s m
theorem scanP_at {s : ByteArray} {k : Nat} (h : k < s.size) : scanP s (s.size - k) = if wildBad s k then 1 else if charBad s k then 12 else scanP s (s.size - (k + 1)) := by
  obtain ⟨m, hm⟩ : ∃ m, s.size - k = m + 1 := ⟨s.size - k - 1, by omega⟩
  rw [hm, scanP, show s.size - (m + 1) = k by omega, show s.size - (k + 1) = m by omega]
theorem Ui {s : ByteArray} {k : Nat} (h : k < s.size) (hw : wildBad s k = false) (hc : charBad s k = false) : scanP s (s.size - (k + 1)) = scanP s (s.size - k) := by
  rw [scanP_at h, hw, hc]; rfl
theorem scanP_wild {s : ByteArray} {k : Nat} (h : k < s.size) (hw : wildBad s k = true) : scanP s (s.size - k) = 1 := by
  rw [scanP_at h, hw]; rfl
theorem QU {s : ByteArray} {k : Nat} (h : k < s.size) (hw : wildBad s k = false) (hc : charBad s k = true) : scanP s (s.size - k) = 12 := by
  rw [scanP_at h, hw, hc]; rfl
theorem scanP_end {s : ByteArray} : scanP s (s.size - s.size) = 0 := by rw [Nat.sub_self]; rfl
def dotty (s : ByteArray) : Bool := strEq s ⟨#[]⟩ || (strEq s ⟨#[46]⟩ || strEq s ⟨#[46, 46]⟩)
def partCode (s : ByteArray) : Nat := if dotty s then 12 else if strEq s sStars then 0 else scanP s s.size
def partsCode : List ByteArray → Nat
  | [] => 0
  | p :: l => if partCode p = 0 then partsCode l else partCode p
def patCode (s : ByteArray) : Nat := if 60 < s.size then 2 else partsCode (cutS s)
theorem Zs : ∀ {l : List ByteArray}, (∀ j (h : j < l.length), partCode l[j] = 0) → partsCode l = 0
  | [], _ => rfl
  | p :: l, h => by
    rw [partsCode, if_pos (show partCode p = 0 from h 0 (by simp))]
    exact Zs fun j hj => h (j + 1) (by simpa using hj)
theorem QJ : ∀ {l : List ByteArray} {k : Nat} {x : ByteArray}, l[k]? = some x → (∀ j (h : j < l.length), j < k → partCode l[j] = 0) → partCode x ≠ 0 → partsCode l = partCode x
  | [], k, x, h, _, _ => by simp at h
  | p :: l, 0, x, h, _, hn => by
    simp at h; subst h
    rw [partsCode, if_neg hn]
  | p :: l, k + 1, x, h, hz, hn => by
    rw [partsCode, if_pos (show partCode p = 0 from hz 0 (by simp) (by omega))]
    exact QJ (by simpa using h) (fun j hj hk => hz (j + 1) (by simpa using hj) (by omega)) hn
def patFault (s : ByteArray) : Fault := if patCode s = 0 then ⟨0, 0⟩ else ⟨patCode s, -1⟩
theorem list_hit : ∀ l : Bs, 0 < l.count 47 → ∃ m : Nat, Lib.indexByte l 47 = m ∧ m < l.length ∧ splitL l = l.take m :: splitL (l.drop (m + 1)) ∧ (l.drop (m + 1)).count 47 + 1 = l.count 47
  | [], h => by simp at h
  | c :: r, h => by
    by_cases hc : c = 47
    · subst hc
      exact ⟨0, by simp [Lib.indexByte], by simp, by simp [splitL], by simp⟩
    · have hr : 0 < r.count 47 := by simpa [List.count_cons, hc] using h
      obtain ⟨m, h1, h2, h3, h4⟩ := list_hit r hr
      refine ⟨m + 1, ?_, by simp; omega, ?_, ?_⟩
      · have : ¬ ((m : Int) == -1) = true := by simp
        simp only [Lib.indexByte, h1]
        rw [if_neg (by simpa using hc), if_neg this]; simp
      · rw [splitL, if_neg hc, h3]; simp
      · simpa [List.count_cons, hc] using h4
theorem list_miss : ∀ l : Bs, l.count 47 = 0 → Lib.indexByte l 47 = -1
  | [], _ => rfl
  | c :: r, h => by
    have hc : ¬ c = 47 := fun e => by subst e; simp at h
    have hr : r.count 47 = 0 := by simpa [List.count_cons, hc] using h
    simp only [Lib.indexByte, list_miss r hr]
    rw [if_neg (by simpa using hc), if_pos (by decide)]
def slashes (s : ByteArray) : Nat := Lib.countByte s.data.toList 47
theorem slashes_le (s : ByteArray) : slashes s ≤ s.size := by
  have := List.count_le_length (a := (47 : UInt8)) (l := s.data.toList)
  simpa [slashes, Lib.countByte] using this
theorem idx_hit {s : ByteArray} (h : 0 < slashes s) : ∃ m : Nat, Lib.indexByte s.data.toList 47 = m ∧ m < s.size ∧ cutS s = s.extract 0 m :: cutS (s.extract (m + 1) s.size) ∧ slashes (s.extract (m + 1) s.size) + 1 = slashes s := by
  obtain ⟨m, h1, h2, h3, h4⟩ := list_hit (bsOf s) h
  have e : bsOf (s.extract (m + 1) s.size) = (bsOf s).drop (m + 1) := by
    rw [bsOf_extract, List.take_of_length_le (by rw [List.length_drop, JM]; omega)]
  rw [JM] at h2
  refine ⟨m, h1, h2, ?_, ?_⟩
  · unfold cutS
    rw [h3, e, List.map_cons]
    congr 1
    exact bs_inj (by rw [bsOf_baOf, bsOf_extract]; simp)
  · show (bsOf (s.extract (m + 1) s.size)).count 47 + 1 = (bsOf s).count 47
    rw [e]; exact h4
theorem Zw {s : ByteArray} (h : slashes s = 0) : Lib.indexByte s.data.toList 47 = -1 ∧ cutS s = [s] := by
  refine ⟨list_miss _ h, ?_⟩
  unfold cutS
  rw [splitL_none _ (fun c hc e => by subst e; exact absurd h (Nat.ne_of_gt (List.count_pos_iff.2 hc)))]
  simp [baOf_bsOf]
theorem set_pre {α : Type} {pre : List α} {n : Nat} {x e : α} (h : pre.length < n) : (pre ++ List.replicate (n - pre.length) e).set pre.length x = (pre ++ [x]) ++ List.replicate (n - (pre ++ [x]).length) e := by
  obtain ⟨m, hm⟩ : ∃ m, n - pre.length = m + 1 := ⟨n - pre.length - 1, by omega⟩
  rw [hm, List.set_append_right _ _ (Nat.le_refl _), Nat.sub_self, List.replicate_succ, List.set_cons_zero, show n - (pre ++ [x]).length = m by simp; omega]
  simp
theorem Xj {α : Type} {l : List α} {k : Nat} {x : α} {r : List α} (h : l.drop k = x :: r) : l[k]? = some x ∧ l.drop (k + 1) = r := by
  have h1 := congrArg (fun q => q[0]?) h
  have h2 := congrArg (fun q => q.drop 1) h
  simp at h1 h2
  exact ⟨h1, by rw [← h2, Nat.add_comm]⟩
end Go.Cf
namespace Go.Cf
open Go.RowKit
theorem Xc {b off : Nat} {cs : Array Value} {e : TypeId} {fz : Nat × Nat} {v : Value} {w : World} (h : (box b (.cells cs e fz)).ok w) (hc : cs[off]? = some v) : w.cell? ⟨b, off, none⟩ = some v := by
  have h' : w.heap[b]? = some (.cells cs e fz) := h
  simp [World.cell?, h', hc]
def starsTo (p : ByteArray) (l : List Bool) : Nat → List Bool
  | 0 => l
  | k + 1 => if byteAt p k = 42 ∧ (starsTo p l k)[k]? = some true then (starsTo p l k).set (k + 1) true else starsTo p l k
theorem Xr (p : ByteArray) (l : List Bool) : ∀ k, (starsTo p l k).length = l.length
  | 0 => rfl
  | k + 1 => by rw [starsTo]; split <;> simp [Xr p l k]
theorem starsTo_yes {p : ByteArray} {l : List Bool} {k : Nat} (h1 : byteAt p k = 42) (h2 : (starsTo p l k)[k]? = some true) : (starsTo p l k).set (k + 1) true = starsTo p l (k + 1) := by
  rw [starsTo, if_pos ⟨h1, h2⟩]
theorem starsTo_no {p : ByteArray} {l : List Bool} {k : Nat} (h : ¬ (byteAt p k = 42 ∧ (starsTo p l k)[k]? = some true)) : starsTo p l k = starsTo p l (k + 1) := by
  rw [starsTo, if_neg h]
def nextTo (p : ByteArray) (c : Nat) (l : List Bool) : Nat → List Bool
  | 0 => List.replicate (p.size + 1) false
  | i + 1 => if l[i]? = some true then
      if byteAt p i = 42 then (nextTo p c l i).set i true else if byteAt p i = 63 ∨ byteAt p i = c then (nextTo p c l i).set (i + 1) true else nextTo p c l i
    else nextTo p c l i
theorem Zb (p : ByteArray) (c : Nat) (l : List Bool) : ∀ k, (nextTo p c l k).length = p.size + 1
  | 0 => by simp [nextTo]
  | k + 1 => by
    have ih := Zb p c l k
    rw [nextTo]; (repeat' split) <;> simp [ih]
section
variable {p : ByteArray} {c i : Nat} {l : List Bool}
theorem nextTo_off (h : l[i]? = some false) : nextTo p c l i = nextTo p c l (i + 1) := by
  rw [nextTo, if_neg (by rw [h]; simp)]
theorem nextTo_star (h : l[i]? = some true) (h2 : byteAt p i = 42) : (nextTo p c l i).set i true = nextTo p c l (i + 1) := by
  rw [nextTo, if_pos h, if_pos h2]
theorem nextTo_char (h : l[i]? = some true) (h2 : byteAt p i ≠ 42) (h3 : byteAt p i = 63 ∨ byteAt p i = c) : (nextTo p c l i).set (i + 1) true = nextTo p c l (i + 1) := by
  rw [nextTo, if_pos h, if_neg h2, if_pos h3]
theorem nextTo_miss (h : l[i]? = some true) (h2 : byteAt p i ≠ 42) (h3 : ¬ (byteAt p i = 63 ∨ byteAt p i = c)) : nextTo p c l i = nextTo p c l (i + 1) := by
  rw [nextTo, if_pos h, if_neg h2, if_neg h3]
end
def nameRun (p s : ByteArray) : Nat → List Bool
  | 0 => starsTo p (true :: List.replicate p.size false) p.size
  | k + 1 => starsTo p (nextTo p (byteAt s k) (nameRun p s k) p.size) p.size
theorem Zu (p s : ByteArray) : ∀ k, (nameRun p s k).length = p.size + 1
  | 0 => by rw [nameRun, Xr]; simp
  | k + 1 => by rw [nameRun, Xr, Zb]
def nameM (p s : ByteArray) : Bool := (nameRun p s s.size)[p.size]?.getD false
def starW (f : List ByteArray → Bool) : List ByteArray → Bool
  | [] => f []
  | n :: ns => f (n :: ns) || starW f ns
def nameW (p : ByteArray) (f : List ByteArray → Bool) : List ByteArray → Bool
  | [] => false
  | n :: ns => nameM p n && f ns
def wk : List ByteArray → List ByteArray → Bool
  | [], ns => ns.isEmpty
  | p :: ps, ns => if strEq p sStars then starW (wk ps) ns else nameW p (wk ps) ns
def wkAt (P N : List ByteArray) (i j : Nat) : Bool := wk (P.drop i) (N.drop j)
section
variable {P N : List ByteArray} {i j : Nat}
theorem wk_end (hj : j ≤ N.length) : wkAt P N P.length j = decide ((j : Int) = N.length) := by
  unfold wkAt
  rw [List.drop_length, wk]
  by_cases h : j = N.length
  · subst h; simp
  · have h1 : j < N.length := by omega
    rw [List.drop_eq_getElem_cons h1]
    rw [decide_eq_false (by omega)]; rfl
theorem wk_star1 (hi : i < P.length) (hs : strEq P[i] sStars = true) (h : wkAt P N (i + 1) j = true) : wkAt P N i j = true := by
  unfold wkAt at *
  rw [List.drop_eq_getElem_cons hi, wk, if_pos hs]
  cases hn : N.drop j with
  | nil => rw [hn] at h; exact h
  | cons n ns => rw [hn] at h; rw [starW, h]; rfl
theorem wk_star2 (hi : i < P.length) (hs : strEq P[i] sStars = true) (h : wkAt P N (i + 1) j = false) (hj : j < N.length) : wkAt P N i j = wkAt P N i (j + 1) := by
  unfold wkAt at *
  rw [List.drop_eq_getElem_cons hi, wk, if_pos hs, wk, if_pos hs]
  rw [List.drop_eq_getElem_cons hj] at h ⊢
  rw [starW, h, Bool.false_or]
theorem wk_star3 (hi : i < P.length) (hs : strEq P[i] sStars = true) (h : wkAt P N (i + 1) j = false) (hj : ¬ j < N.length) : wkAt P N i j = false := by
  unfold wkAt at *
  rw [List.drop_eq_getElem_cons hi, wk, if_pos hs]
  rw [List.drop_of_length_le (l := N) (by omega)] at h ⊢
  exact h
theorem wk_name (hi : i < P.length) (hs : strEq P[i] sStars = false) (hj : j < N.length) : wkAt P N i j = (nameM P[i] N[j] && wkAt P N (i + 1) (j + 1)) := by
  unfold wkAt
  rw [List.drop_eq_getElem_cons hi, List.drop_eq_getElem_cons hj, wk, if_neg (by simp [hs]), nameW]
theorem wk_name0 (hi : i < P.length) (hs : strEq P[i] sStars = false) (hj : ¬ j < N.length) : wkAt P N i j = false := by
  unfold wkAt
  rw [List.drop_eq_getElem_cons hi, List.drop_of_length_le (l := N) (by omega), wk, if_neg (by simp [hs]), nameW]
end
theorem patFault_size {p : ByteArray} (h : patFault p = ⟨0, 0⟩) : p.size ≤ 60 := by
  unfold patFault patCode at h
  by_cases h1 : 60 < p.size
  · simp [h1] at h
  · omega
theorem Qi {s : ByteArray} (h : pathOk s = true) : s.size ≤ 60 := by
  unfold pathOk at h
  rw [Bool.and_eq_true] at h
  exact of_decide_eq_true h.2
def MemoOk (f : Nat → Nat → Bool) (l : List ((Nat × Nat) × Bool)) : Prop := ∀ i j b, look l (i, j) = some b → b = f i j
theorem memo_nil (f : Nat → Nat → Bool) : MemoOk f [] := fun _ _ _ h => by simp [look] at h
theorem memo_put {f : Nat → Nat → Bool} {l : List ((Nat × Nat) × Bool)} (h : MemoOk f l) (i j : Nat) : MemoOk f (putK l (i, j) (f i j)) := fun a b c hc => by
  rw [look_put] at hc
  split at hc
  · rename_i e; cases e; cases hc; rfl
  · exact h a b c hc
theorem memo_hit {f : Nat → Nat → Bool} {l : List ((Nat × Nat) × Bool)} (h : MemoOk f l) {i j : Nat} (hs : (look l (i, j)).isSome = true) : (look l (i, j)).getD false = f i j := by
  obtain ⟨b, hb⟩ := Option.isSome_iff_exists.1 hs
  rw [hb]; exact h i j b hb
end Go.Cf
namespace Go.Cf
open Go.RowKit
abbrev Pl := Nat × Nat × Nat
def wildB (c : Nat) : Bool := decide (c = 42) || decide (c = 63)
def nxA (p : ByteArray) (x : Pl) : List Pl := if x.1 < p.size ∧ byteAt p x.1 = 42 then [(x.1 + 1, x.2.1, x.2.2)] else []
def nxB (q : ByteArray) (x : Pl) : List Pl := if x.2.1 < q.size ∧ byteAt q x.2.1 = 42 then [(x.1, x.2.1 + 1, x.2.2)] else []
def fits (p q : ByteArray) (x : Pl) : Prop := wildB (byteAt p x.1) = true ∨ wildB (byteAt q x.2.1) = true ∨ byteAt p x.1 = byteAt q x.2.1
instance (p q : ByteArray) (x : Pl) : Decidable (fits p q x) := by unfold fits; infer_instance
def nxI (p : ByteArray) (x : Pl) : Nat := if byteAt p x.1 = 42 then x.1 else x.1 + 1
def nxJ (q : ByteArray) (x : Pl) : Nat := if byteAt q x.2.1 = 42 then x.2.1 else x.2.1 + 1
def nxD (p q : ByteArray) (x : Pl) : Nat := if byteAt p x.1 = 46 ∨ byteAt q x.2.1 = 46 then min (x.2.2 + 1) 3 else 3
def nxC (p q : ByteArray) (x : Pl) : List Pl := if x.1 < p.size ∧ x.2.1 < q.size ∧ fits p q x then [(nxI p x, nxJ q x, nxD p q x)] else []
def nextL (p q : ByteArray) (x : Pl) : List Pl := nxA p x ++ nxB q x ++ nxC p q x
theorem nxA_len (p : ByteArray) (x : Pl) : (nxA p x).length ≤ 1 := by unfold nxA; split <;> simp
theorem nxB_len (p : ByteArray) (x : Pl) : (nxB p x).length ≤ 1 := by unfold nxB; split <;> simp
theorem nxC_len (p q : ByteArray) (x : Pl) : (nxC p q x).length ≤ 1 := by unfold nxC; split <;> simp
theorem nextL_len (p q : ByteArray) (x : Pl) : (nextL p q x).length ≤ 3 := by
  have := nxA_len p x; have := nxB_len q x; have := nxC_len p q x
  unfold nextL; simp; omega
end Go.Cf
