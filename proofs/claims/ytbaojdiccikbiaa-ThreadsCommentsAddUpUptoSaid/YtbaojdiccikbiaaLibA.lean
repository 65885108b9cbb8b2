/- Own walking frame, part A: environments, worlds as lists of known regions, rules for code. Program independent. -/
import Derived.WalkKit
import Derived.Deep.Quiet
import Derived.OrdersHeld
import Derived.Maps.AppendAt
import Derived.Laws.OwnMore
import Derived.Below
namespace Go.Cf

abbrev Env := Nat → Value
def upd (ρ : Env) (t : Nat) (v : Value) : Env := fun s => bif Nat.beq s t then v else ρ s
def updL (ρ : Env) : List (Nat × Value) → Env
  | [] => ρ
  | (t, v) :: l => upd (updL ρ l) t v
def ev (ρ : Env) : Operand → Value
  | .tmp t => ρ t
  | .const v => v
  | .global g => .pointer (some ⟨g, 0, none⟩)
  | .func f => .func (.func f) #[] #[]
def agree (ρ : Env) : List (Nat × Value) → Prop
  | [] => True
  | (t, v) :: l => ρ t = v ∧ agree ρ l

theorem beq_no {s t : Nat} (h : s ≠ t) : Nat.beq s t = false := by
  cases e : Nat.beq s t with
  | false => rfl
  | true => exact absurd (Nat.eq_of_beq_eq_true e) h
theorem upd_same (ρ : Env) (t : Nat) (v : Value) : upd ρ t v t = v := by simp [upd]
theorem upd_other (ρ : Env) {t s : Nat} (v : Value) (h : s ≠ t) : upd ρ t v s = ρ s := by
  have : Nat.beq s t = false := beq_no h
  simp [upd, this]
theorem upd_self (ρ : Env) (t : Nat) (v : Value) (h : ρ t = v) : upd ρ t v = ρ := by
  funext s
  by_cases e : s = t
  · subst e; rw [upd_same, h]
  · rw [upd_other _ _ e]
theorem updL_self (ρ : Env) : ∀ l, agree ρ l → updL ρ l = ρ
  | [], _ => rfl
  | (t, v) :: l, h => by
    show upd (updL ρ l) t v = ρ
    rw [updL_self ρ l h.2, upd_self _ _ _ h.1]

structure Is (n : Nat) (ρ : Env) (a : Act) : Prop where
  defers : a.defers = []
  size : a.tmps.size = n
  val : ∀ t, a.tmps.getD t undef = ρ t

theorem Is.eval {n : Nat} {ρ : Env} {a : Act} (h : Is n ρ a) : a.eval = ev ρ := by
  funext x
  cases x with
  | tmp t => exact h.val t
  | const v => rfl
  | global g => rfl
  | func f => rfl

theorem Is.put {n : Nat} {ρ : Env} {a : Act} (h : Is n ρ a) {d : Nat} (hd : Nat.blt d n = true) (v : Value) : Is n (upd ρ d v) (a.put (some d) v) := by
  have hd' : d < n := Nat.le_of_ble_eq_true hd
  refine ⟨h.defers, by simp [Act.put, h.size], fun t => ?_⟩
  have hs : d < a.tmps.size := by rw [h.size]; exact hd'
  by_cases e : t = d
  · subst e
    simp [Act.put, upd_same, hs]
  · rw [upd_other _ _ e, ← h.val t]
    simp only [Act.put, Array.getD_eq_getD_getElem?]
    rw [Array.getElem?_setIfInBounds_ne (fun h => e h.symm)]

def Out (n : Nat) (N : Env → World → Prop) (X : Nat → Env → World → Prop) (R : Env → World → Prop) : Exit → Act → World → Prop
  | .normal, a, w => ∃ ρ, Is n ρ a ∧ N ρ w
  | .exit i, a, w => ∃ ρ, Is n ρ a ∧ X i ρ w
  | .ret, a, w => ∃ ρ, Is n ρ a ∧ R ρ w
  | _, _, _ => False

def cwp (P : Program) (n : Nat) (c : Code) (N : Env → World → Prop) (X : Nat → Env → World → Prop) (R : Env → World → Prop) (ρ : Env) (w : World) : Prop :=
  ∀ a, Is n ρ a → c.wp P (Out n N X R) a w

section
variable {P : Program} {n : Nat} {N : Env → World → Prop} {X : Nat → Env → World → Prop} {R : Env → World → Prop} {ρ : Env} {w : World}

theorem cwp_seq {x y : Code} (h : cwp P n x (fun ρ w => cwp P n y N X R ρ w) X R ρ w) : cwp P n (.seq x y) N X R ρ w := by
  intro a ha
  refine wp_seq (wp_mono (h a ha) fun e a' w' q => ?_)
  cases e with
  | normal => obtain ⟨ρ', h1, h2⟩ := q; exact h2 a' h1
  | exit i => exact q
  | ret => exact q
  | goto l => exact q
  | panic c => exact q
  | outgrown => exact q

theorem cwp_skip (h : N ρ w) : cwp P n .skip N X R ρ w := fun _ ha => wp_skip ⟨ρ, ha, h⟩
theorem cwp_exit {i : Nat} (h : X i ρ w) : cwp P n (.exit i) N X R ρ w := fun _ ha => wp_exit ⟨ρ, ha, h⟩
theorem cwp_ret (h : R ρ w) : cwp P n .ret N X R ρ w := fun _ ha => wp_ret ⟨ρ, ha, h⟩
theorem cwp_cond {c : Operand} {x y : Code} {b : Bool} (hc : ev ρ c = .bool b) (h1 : b = true → cwp P n x N X R ρ w) (h2 : b = false → cwp P n y N X R ρ w) :
    cwp P n (.cond c x y) N X R ρ w := fun a ha => by
  have hc' : a.eval c = .bool b := by rw [ha.eval]; exact hc
  exact wp_cond_split hc' (fun hb => h1 hb a ha) (fun hb => h2 hb a ha)
theorem cwp_block {i : Nat} {c : Code} (h : cwp P n c N (fun j => bif Nat.beq j i then N else X j) R ρ w) : cwp P n (.block i c) N X R ρ w := by
  intro a ha
  refine wp_block (wp_mono (h a ha) fun e a' w' q => ?_)
  cases e with
  | exit j =>
    obtain ⟨ρ', h1, h2⟩ := q
    show (if j = i then _ else _)
    by_cases e : j = i
    · subst e
      rw [if_pos rfl]
      exact ⟨ρ', h1, by simpa using h2⟩
    · rw [if_neg e]
      have : Nat.beq j i = false := beq_no e
      exact ⟨ρ', h1, by simpa [this] using h2⟩
  | normal => exact q
  | ret => exact q
  | goto l => exact q
  | panic c => exact q
  | outgrown => exact q
theorem cwp_loop {c : Code} (I : Nat → Env → World → Prop) (m0 : Nat) (h0 : I m0 ρ w)
    (round : ∀ m ρ w, I m ρ w → cwp P n c (fun ρ' w' => ∃ m', m' < m ∧ I m' ρ' w') X R ρ w) : cwp P n (.loop c) N X R ρ w := by
  intro a ha b k cs
  have key : ∀ m ρ w a, I m ρ w → Is n ρ a →
      ∃ e a' w', Out n N X R e a' w' ∧ Arrives P (lone (b.at a (.code c :: .inLoop c :: k)) cs w) b k cs e a' w' := by
    intro m
    induction m using Nat.strongRecOn with
    | _ m ih =>
      intro ρ w a hI ha
      obtain ⟨e, a₁, w₁, hq, harr⟩ := round m ρ w hI a ha b (.inLoop c :: k) cs
      cases e with
      | normal =>
        obtain ⟨ρ', hρ', m', hlt, hI'⟩ := hq
        obtain ⟨e₂, a₂, w₂, hq₂, harr₂⟩ := ih m' hlt ρ' w₁ a₁ hI' hρ'
        exact ⟨e₂, a₂, w₂, hq₂, .of_steps (Steps.trans harr (.one step_inLoop)) harr₂⟩
      | exit id => exact ⟨.exit id, a₁, w₁, hq, .pass (x := .inLoop c) rfl (fun _ _ => .inl (by simp)) harr⟩
      | ret => exact ⟨.ret, a₁, w₁, hq, .pass (x := .inLoop c) rfl (fun _ _ => .inl (by simp)) harr⟩
      | goto l => exact hq.elim
      | panic ch => exact hq.elim
      | outgrown => exact hq.elim
  obtain ⟨e, a', w', hq, harr⟩ := key m0 ρ w a h0 ha
  exact ⟨e, a', w', hq, .of_steps (.one step_loop) harr⟩
end
end Go.Cf
