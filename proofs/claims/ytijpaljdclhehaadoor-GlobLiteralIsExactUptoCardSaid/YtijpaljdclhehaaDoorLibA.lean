/- Own walking frame, part A: environments, worlds as lists of known regions, rules for code. Program independent. -/
import Derived.WalkKit
import Derived.Deep.Quiet
import Derived.OrdersHeld
import Derived.Maps.AppendAt
import Derived.Laws.OwnMore
import Derived.Below
import Derived.TacticsIn
import Derived.RangeFuncLeaves
import Derived.RangeFuncCalls
import Derived.RangeFuncRecord
namespace Go.Cf

abbrev Env := Nat → Value
def upd (ρ : Env) (t : Nat) (v : Value) : Env := fun s => bif Nat.beq s t then v else ρ s
def updL (ρ : Env) : List (Nat × Value) → Env
  | [] => ρ
  | (t, v) :: l => upd (updL ρ l) t v
def ev (ρ : Env) : Operand → Value
  | .tmp t => ρ t
  | .const v => v
  | .global g => .pointer (some ⟨g, 0, none⟩)
  | .func f => .func (.func f) #[] #[]
def agree (ρ : Env) : List (Nat × Value) → Prop
  | [] => True
  | (t, v) :: l => ρ t = v ∧ agree ρ l

theorem beq_no {s t : Nat} (h : s ≠ t) : Nat.beq s t = false := by
  cases e : Nat.beq s t with
  | false => rfl
  | true => exact absurd (Nat.eq_of_beq_eq_true e) h
theorem upd_same (ρ : Env) (t : Nat) (v : Value) : upd ρ t v t = v := by simp [upd]
theorem upd_other (ρ : Env) {t s : Nat} (v : Value) (h : s ≠ t) : upd ρ t v s = ρ s := by
  have : Nat.beq s t = false := beq_no h
  simp [upd, this]
theorem upd_self (ρ : Env) (t : Nat) (v : Value) (h : ρ t = v) : upd ρ t v = ρ := by
  funext s
  by_cases e : s = t
  · subst e; rw [upd_same, h]
  · rw [upd_other _ _ e]
theorem updL_self (ρ : Env) : ∀ l, agree ρ l → updL ρ l = ρ
  | [], _ => rfl
  | (t, v) :: l, h => by
    show upd (updL ρ l) t v = ρ
    rw [updL_self ρ l h.2, upd_self _ _ _ h.1]

/-- the kind of a frame: how many temporaries; what is deferred; the round that it is -/
structure Fr where
  n : Nat
  ds : List Deferred
  rd : Option (Option Nat)
/-- the fence of a frame that is no round, or a round -/
def fen : Option Nat → Fence
  | none => Fence.wide
  | some l => Fence.wide.inRound l
theorem fen_fn (r : Option Nat) (f : Nat) : (fen r).fn f := by cases r <;> trivial
theorem fen_depth (r : Option Nat) : (fen r).depth = none := by cases r <;> rfl
abbrev Fr.plain (n : Nat) : Fr := ⟨n, [], none⟩
structure Is (n : Fr) (ρ : Env) (a : Act) : Prop where
  defers : a.defers = n.ds
  size : a.tmps.size = n.n
  val : ∀ t, a.tmps.getD t undef = ρ t

theorem Is.eval {n : Fr} {ρ : Env} {a : Act} (h : Is n ρ a) : a.eval = ev ρ := by
  funext x
  cases x with
  | tmp t => exact h.val t
  | const v => rfl
  | global g => rfl
  | func f => rfl

theorem Is.put {n : Fr} {ρ : Env} {a : Act} (h : Is n ρ a) {d : Nat} (hd : Nat.blt d n.n = true) (v : Value) : Is n (upd ρ d v) (a.put (some d) v) := by
  have hd' : d < n.n := Nat.le_of_ble_eq_true hd
  refine ⟨h.defers, by simp [Act.put, h.size], fun t => ?_⟩
  have hs : d < a.tmps.size := by rw [h.size]; exact hd'
  by_cases e : t = d
  · subst e
    simp [Act.put, upd_same, hs]
  · rw [upd_other _ _ e, ← h.val t]
    simp only [Act.put, Array.getD_eq_getD_getElem?]
    rw [Array.getElem?_setIfInBounds_ne (fun h => e h.symm)]

/-- how a function may end: nothing is deferred, or the one block of a range over a function, which is empty -/
def Ends (n : Fr) (R : Env → World → Prop) (a : Act) (w : World) : Prop :=
  ∃ ρ, a.tmps.size = n.n ∧ (∀ t, a.tmps.getD t undef = ρ t) ∧ ((a.defers = n.ds ∧ R ρ w) ∨
    (n.ds = [] ∧ n.rd = none ∧ ∃ D, a.defers = [{ target := .collected D, args := #[] }] ∧ w.heap[D]? = some (.deferred (some [])) ∧ R ρ (w.putObj D (.deferred none))))
theorem Ends.none {n : Fr} {a : Act} {w : World} (h : Ends n (fun _ _ => False) a w) : False := by
  obtain ⟨_, _, _, h | ⟨_, _, _, _, _, h⟩⟩ := h
  · exact h.2
  · exact h
theorem Is.ends {n : Fr} {ρ : Env} {a : Act} {w : World} {R : Env → World → Prop} (h : Is n ρ a) (hR : R ρ w) : Ends n R a w := ⟨ρ, h.size, h.val, .inl ⟨h.defers, hR⟩⟩
def Out (n : Fr) (N : Env → World → Prop) (X : Nat → Env → World → Prop) (R : Env → World → Prop) : Exit → Act → World → Prop
  | .normal, a, w => ∃ ρ, Is n ρ a ∧ N ρ w
  | .exit i, a, w => ∃ ρ, Is n ρ a ∧ X i ρ w
  | .ret, a, w => Ends n R a w
  | _, _, _ => False

/-- the weakest precondition in a frame of its kind -/
def cw (n : Fr) (P : Program) (c : Code) (Q : Exit → Act → World → Prop) (a : Act) (w : World) : Prop :=
  match n.rd with
  | none => c.wp P Q a w
  | some l => c.wpIn (fen l) 0 P Q a w
section
variable {n : Fr} {P : Program} {Q Q' : Exit → Act → World → Prop} {a : Act} {w : World} {x y c : Code}
theorem cw_mono (h : cw n P c Q a w) (hq : ∀ e a w, Q e a w → Q' e a w) : cw n P c Q' a w := by
  unfold cw at *; split at h
  · exact wp_mono h hq
  · exact wpIn_mono h hq
theorem cw_seq (h : cw n P x (Exit.then (cw n P y Q) Q) a w) : cw n P (.seq x y) Q a w := by
  unfold cw at *; split at h
  · exact wp_seq h
  · exact wpIn_seq h
theorem cw_skip (h : Q .normal a w) : cw n P .skip Q a w := by
  unfold cw; split
  · exact wp_skip h
  · exact wpIn_skip h
theorem cw_exit {i : Nat} (h : Q (.exit i) a w) : cw n P (.exit i) Q a w := by
  unfold cw; split
  · exact wp_exit h
  · exact wpIn_exit h
theorem cw_ret (h : Q .ret a w) : cw n P .ret Q a w := by
  unfold cw; split
  · exact wp_ret h
  · exact wpIn_ret h
theorem cw_cond_split {c : Operand} {t : Bool} (hc : a.eval c = .bool t) (ht : t = true → cw n P x Q a w) (hf : t = false → cw n P y Q a w) : cw n P (.cond c x y) Q a w := by
  obtain ⟨k, ds, rd⟩ := n
  cases rd with
  | none => exact wp_cond_split hc ht hf
  | some l => exact wpIn_cond_split hc ht hf
theorem cw_block {id : Nat} (h : cw n P c (Exit.inBlock id Q) a w) : cw n P (.block id c) Q a w := by
  unfold cw at *; split at h
  · exact wp_block h
  · exact wpIn_block h
theorem cw_of_wp (hn : n.rd = none) (h : c.wp P Q a w) : cw n P c Q a w := by unfold cw; rw [hn]; exact h
theorem wp_of_cw (hn : n.rd = none) (h : cw n P c Q a w) : c.wp P Q a w := by unfold cw at h; rw [hn] at h; exact h
end

def cwp (P : Program) (n : Fr) (c : Code) (N : Env → World → Prop) (X : Nat → Env → World → Prop) (R : Env → World → Prop) (ρ : Env) (w : World) : Prop :=
  ∀ a, Is n ρ a → cw n P c (Out n N X R) a w

section
variable {P : Program} {n : Fr} {N : Env → World → Prop} {X : Nat → Env → World → Prop} {R : Env → World → Prop} {ρ : Env} {w : World}

theorem cwp_seq {x y : Code} (h : cwp P n x (fun ρ w => cwp P n y N X R ρ w) X R ρ w) : cwp P n (.seq x y) N X R ρ w := by
  intro a ha
  refine cw_seq (cw_mono (h a ha) fun e a' w' q => ?_)
  cases e with
  | normal => obtain ⟨ρ', h1, h2⟩ := q; exact h2 a' h1
  | exit i => exact q
  | ret => exact q
  | goto l => exact q
  | panic c => exact q
  | outgrown => exact q

theorem cwp_skip (h : N ρ w) : cwp P n .skip N X R ρ w := fun _ ha => cw_skip ⟨ρ, ha, h⟩
theorem cwp_exit {i : Nat} (h : X i ρ w) : cwp P n (.exit i) N X R ρ w := fun _ ha => cw_exit ⟨ρ, ha, h⟩
theorem cwp_ret (h : R ρ w) : cwp P n .ret N X R ρ w := fun _ ha => cw_ret (ha.ends h)
theorem cwp_cond {c : Operand} {x y : Code} {b : Bool} (hc : ev ρ c = .bool b) (h1 : b = true → cwp P n x N X R ρ w) (h2 : b = false → cwp P n y N X R ρ w) :
    cwp P n (.cond c x y) N X R ρ w := fun a ha => by
  have hc' : a.eval c = .bool b := by rw [ha.eval]; exact hc
  exact cw_cond_split hc' (fun hb => h1 hb a ha) (fun hb => h2 hb a ha)
theorem cwp_block {i : Nat} {c : Code} (h : cwp P n c N (fun j => bif Nat.beq j i then N else X j) R ρ w) : cwp P n (.block i c) N X R ρ w := by
  intro a ha
  refine cw_block (cw_mono (h a ha) fun e a' w' q => ?_)
  cases e with
  | exit j =>
    obtain ⟨ρ', h1, h2⟩ := q
    show (if j = i then _ else _)
    by_cases e : j = i
    · subst e
      rw [if_pos rfl]
      exact ⟨ρ', h1, by simpa using h2⟩
    · rw [if_neg e]
      have : Nat.beq j i = false := beq_no e
      exact ⟨ρ', h1, by simpa [this] using h2⟩
  | normal => exact q
  | ret => exact q
  | goto l => exact q
  | panic c => exact q
  | outgrown => exact q
theorem wp_loopR {c : Code} (I : Nat → Env → World → Prop) (m0 : Nat) (h0 : I m0 ρ w) (hn : n.rd = none)
    (round : ∀ m ρ w, I m ρ w → cwp P n c (fun ρ' w' => ∃ m', m' < m ∧ I m' ρ' w') X R ρ w) : cwp P n (.loop c) N X R ρ w := by
  intro a ha
  refine cw_of_wp hn ?_
  intro b k cs
  have key : ∀ m ρ w a, I m ρ w → Is n ρ a →
      ∃ e a' w', Out n N X R e a' w' ∧ Arrives P (lone (b.at a (.code c :: .inLoop c :: k)) cs w) b k cs e a' w' := by
    intro m
    induction m using Nat.strongRecOn with
    | _ m ih =>
      intro ρ w a hI ha
      obtain ⟨e, a₁, w₁, hq, harr⟩ := wp_of_cw hn (round m ρ w hI a ha) b (.inLoop c :: k) cs
      cases e with
      | normal =>
        obtain ⟨ρ', hρ', m', hlt, hI'⟩ := hq
        obtain ⟨e₂, a₂, w₂, hq₂, harr₂⟩ := ih m' hlt ρ' w₁ a₁ hI' hρ'
        exact ⟨e₂, a₂, w₂, hq₂, .of_steps (Steps.trans harr (.one step_inLoop)) harr₂⟩
      | exit id => exact ⟨.exit id, a₁, w₁, hq, .pass (x := .inLoop c) rfl (fun _ _ => .inl (by simp)) harr⟩
      | ret => exact ⟨.ret, a₁, w₁, hq, .pass (x := .inLoop c) rfl (fun _ _ => .inl (by simp)) harr⟩
      | goto l => exact hq.elim
      | panic ch => exact hq.elim
      | outgrown => exact hq.elim
  obtain ⟨e, a', w', hq, harr⟩ := key m0 ρ w a h0 ha
  exact ⟨e, a', w', hq, .of_steps (.one step_loop) harr⟩
theorem wp_loopI {l : Option Nat} {c : Code} (I : Nat → Env → World → Prop) (m0 : Nat) (h0 : I m0 ρ w) (hn : n.rd = some l)
    (round : ∀ m ρ w, I m ρ w → cwp P n c (fun ρ' w' => ∃ m', m' < m ∧ I m' ρ' w') X R ρ w) : cwp P n (.loop c) N X R ρ w := by
  intro a ha
  unfold cw
  rw [hn]
  intro b k cs hro hb hr
  have key : ∀ m ρ w a, I m ρ w → Is n ρ a →
      ∃ e a' w', Out n N X R e a' w' ∧ ArrivesIn (Machine.fenced P (fen l)) P (lone (b.atR a (.code c :: .inLoop c :: k)) cs w) b k cs e a' w' := by
    intro m
    induction m using Nat.strongRecOn with
    | _ m ih =>
      intro ρ w a hI ha
      have hrd := round m ρ w hI a ha
      unfold cw at hrd
      rw [hn] at hrd
      obtain ⟨e, a₁, w₁, hq, harr⟩ := hrd b (.inLoop c :: k) cs hro hb hr
      cases e with
      | normal =>
        obtain ⟨ρ', hρ', m', hlt, hI'⟩ := hq
        obtain ⟨e₂, a₂, w₂, hq₂, harr₂⟩ := ih m' hlt ρ' w₁ a₁ hI' hρ'
        exact ⟨e₂, a₂, w₂, hq₂, .of_steps (StepsIn.trans harr (.one (fenced_calm hb hr rfl) stepR_inLoop)) harr₂⟩
      | exit id => exact ⟨.exit id, a₁, w₁, hq, .pass (x := .inLoop c) rfl (fun _ _ => .inl (by simp)) harr⟩
      | ret => exact ⟨.ret, a₁, w₁, hq, .pass (x := .inLoop c) rfl (fun _ _ => .inl (by simp)) harr⟩
      | goto l => exact hq.elim
      | panic ch => exact hq.elim
      | outgrown => exact hq.elim
  obtain ⟨e, a', w', hq, harr⟩ := key m0 ρ w a h0 ha
  exact ⟨e, a', w', hq, .of_steps (.one (fenced_calm hb hr rfl) stepR_loop) harr⟩
theorem cwp_loop {c : Code} (I : Nat → Env → World → Prop) (m0 : Nat) (h0 : I m0 ρ w)
    (round : ∀ m ρ w, I m ρ w → cwp P n c (fun ρ' w' => ∃ m', m' < m ∧ I m' ρ' w') X R ρ w) : cwp P n (.loop c) N X R ρ w := by
  cases hn : n.rd with
  | none => exact wp_loopR I m0 h0 hn round
  | some l => exact wp_loopI I m0 h0 hn round
end
end Go.Cf
