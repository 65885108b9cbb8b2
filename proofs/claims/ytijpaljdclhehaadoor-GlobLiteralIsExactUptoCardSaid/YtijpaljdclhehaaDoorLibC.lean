/- Own walking frame, part C: regions and their operations over (environment, list). Program independent. -/
import Derived.Test.YtijpaljdclhehaaDoorLibB
import Derived.Laws.StructEq
import Derived.Laws.Tables
import Derived.Laws.Cover1
import Derived.IntWalk
namespace Go.Cf
open Go.RowKit

theorem callsIn_fen (r : Option Nat) {m : Nat} {P : Program} {f : FuncId} {args : Array Value} {w : World} {R : Ending → World → Prop} (h : Calls P f args w R) : CallsIn (fen r) m P f args w R := by
  cases r with
  | none => exact callsIn_wide.2 h
  | some l => exact CallsIn.inRound l (callsIn_wide.2 h)
/-- the operations of a region in a frame of its kind -/
def lw (n : Fr) (P : Program) (full : Array Oper) (Q : Exit → Act → World → Prop) (l : List Oper) (a : Act) (w : World) : Prop :=
  match n.rd with
  | none => wpList P full Q l a w
  | some r => wpListIn (fen r) 0 P full Q l a w
section
variable {n : Fr} {P : Program} {full : Array Oper} {Q : Exit → Act → World → Prop} {l rest : List Oper} {a : Act} {w : World} {o : Oper}
theorem lw_nil (h : Q .normal a w) : lw n P full Q [] a w := by
  unfold lw; split <;> exact h
theorem lw_region {id : Nat} (h : lw n P l.toArray Q l a w) : cw n P (.region id l.toArray false) Q a w := by
  obtain ⟨k, ds, rd⟩ := n
  cases rd with
  | none => exact wp_region_lit h
  | some r => exact wpIn_region_lit h
theorem no_defer {ρ : Operand → Value} {w' : World} {x : Next} (h : (execOp ρ o).run P w = .ok x w') (hx : ∀ d, x ≠ .defer d) : ∀ c, o.op ≠ .defer c := by
  intro c hc
  have e : execOp ρ o = (do let d ← resolve ρ c o.type; pure (.defer d)) := by unfold execOp; rw [hc]
  rw [e, Sem.run_bind] at h
  cases hr : (resolve ρ c o.type).run P w with
  | ok d w1 => rw [hr] at h; simp [Result.andThen] at h; exact hx d h.1.symm
  | _ => rw [hr] at h; simp [Result.andThen] at h
/-- an operation: by what it does -/
theorem lw_plain (hg : o.guard = none) {x : Next} {w' : World} (hr : (execOp a.eval o).run P w = .ok x w') (hx : ∀ d, x ≠ .defer d)
    (h : ∀ K : Act → World → Prop, (∀ a w, lw n P full Q rest a w → K a w) → match x with
      | .value v => K (a.put o.dst v) w'
      | .skip => K (a.put o.dst undef) w'
      | .enter f args => Calls P f args w' fun e w2 => ∃ v, e = .returned v ∧ K (a.put o.dst v) w2
      | _ => False) : lw n P full Q (o :: rest) a w := by
  obtain ⟨k, ds, rd⟩ := n
  cases rd with
  | none =>
    refine wpList_plain hg fun K hK => ?_
    have h1 := h K hK
    unfold Oper.wp
    rw [hr]
    cases x with
    | value v => exact h1
    | skip => exact h1
    | enter f args =>
      rw [Oper.upon_enter]
      refine Calls.mono h1 ?_
      rintro e w' ⟨v, rfl, h⟩
      exact h
    | _ => exact h1.elim
  | some r =>
    refine wpListIn_plain hg fun K hK => ?_
    have h1 := h K hK
    refine ⟨fun f _ => fen_fn r f, ?_⟩
    rw [Oper.semAt_eq _ _ _ (no_defer hr hx), hr]
    cases x with
    | value v => exact h1
    | skip => exact h1
    | enter f args =>
      rw [Oper.uponIn_enter]
      refine ⟨fun h => (by rw [fen_depth] at h; cases h), callsIn_fen r (Calls.mono h1 ?_)⟩
      rintro e w' ⟨v, rfl, h⟩
      exact h
    | _ => exact h1.elim
theorem lw_on (hw : Region.wanted o (yielded full a.tmps) = true) (h : lw n P full Q ({ o with guard := none } :: rest) a w) : lw n P full Q (o :: rest) a w := by
  obtain ⟨k, ds, rd⟩ := n
  cases rd with
  | none =>
    show wpList _ _ _ _ _ _
    have h1 : wpList P full Q ({ o with guard := none } :: rest) a w := h
    unfold wpList at h1 ⊢
    rw [if_pos hw]
    rw [if_pos (by rfl)] at h1
    exact h1
  | some r =>
    show wpListIn _ _ _ _ _ _ _ _
    have h1 : wpListIn (fen r) 0 P full Q ({ o with guard := none } :: rest) a w := h
    unfold wpListIn at h1 ⊢
    rw [if_pos hw]
    rw [if_pos (by rfl)] at h1
    exact h1
theorem lw_off (hw : ¬ Region.wanted o (yielded full a.tmps) = true) (h : lw n P full Q rest (a.put o.dst undef) w) : lw n P full Q (o :: rest) a w := by
  obtain ⟨k, ds, rd⟩ := n
  cases rd with
  | none =>
    show wpList _ _ _ _ _ _
    unfold wpList
    rw [if_neg hw]
    exact h
  | some r =>
    show wpListIn _ _ _ _ _ _ _ _
    unfold wpListIn
    rw [if_neg hw]
    exact ⟨fun _ _ => fen_fn r _, h⟩
end
def owp (P : Program) (n : Fr) (full : Array Oper) (l : List Oper) (N : Env → World → Prop) (ρ : Env) (w : World) : Prop :=
  ∀ a, Is n ρ a → lw n P full (Out n N (fun _ _ _ => False) (fun _ _ => False)) l a w
def gops (P : Program) (n : Fr) (w0 : World) (full : Array Oper) (l : List Oper) (N : Env → World → Prop) (ρ : Env) (T : List Reg) : Prop :=
  ∀ w, Mem w0 T w → owp P n full l N ρ w
/-- in every world that is as T says the operation yields v and leaves the world alone -/
def Yield (P : Program) (w0 : World) (T : List Reg) (ρ : Env) (o : Oper) (v : Value) : Prop :=
  ∀ w, Mem w0 T w → (execOp (ev ρ) o).run P w = .ok (.value v) w
/-- in every world that is as T says the cell holds v -/
def Cell (w0 : World) (T : List Reg) (p : Addr) (v : Value) : Prop := ∀ w, Mem w0 T w → w.cell? p = some v

section
variable {P : Program} {n : Fr} {w0 : World} {N : Env → World → Prop} {X : Nat → Env → World → Prop} {R : Env → World → Prop} {ρ : Env} {T : List Reg}
  {full : Array Oper} {l rest : List Oper} {o : Oper} {v : Value} {d : Nat}

theorem out_more {N : Env → World → Prop} : ∀ (e : Exit) (a : Act) (w : World), Out n N (fun _ _ _ => False) (fun _ _ => False) e a w → Out n N X R e a w := by
  intro e a w q
  cases e with
  | normal => exact q
  | exit i => obtain ⟨_, _, hf⟩ := q; exact hf.elim
  | ret => exact (Ends.none q).elim
  | goto l => exact q
  | panic c => exact q
  | outgrown => exact q

theorem greg {id : Nat} (h : gops P n w0 l.toArray l N ρ T) : gwp P n w0 (.region id l.toArray false) N X R ρ T :=
  fun w hM a ha => cw_mono (lw_region (h w hM a ha)) out_more
theorem gops_nil (h : Fin w0 N ρ T) : gops P n w0 full [] N ρ T := fun w hM _ ha => lw_nil ⟨ρ, ha, h w hM⟩

theorem gop (hy : Yield P w0 T ρ o v) (hg : o.guard = none) (hd : o.dst = some d) (hlt : Nat.blt d n.n = true) (h : gops P n w0 full rest N (upd ρ d v) T) :
    gops P n w0 full (o :: rest) N ρ T := by
  intro w hM a ha
  refine lw_plain hg (by rw [ha.eval]; exact hy w hM) (by simp) fun K hK => ?_
  show K (a.put o.dst v) w
  rw [hd]
  exact hK _ _ (h w hM _ (ha.put hlt v))

/-- an operation that yields a value and changes the world -/
theorem gop_w (hrun : ∀ w, Mem w0 T w → ∃ v w', (execOp (ev ρ) o).run P w = .ok (.value v) w' ∧ owp P n full rest N (upd ρ d v) w')
    (hg : o.guard = none) (hd : o.dst = some d) (hlt : Nat.blt d n.n = true) : gops P n w0 full (o :: rest) N ρ T := by
  intro w hM a ha
  obtain ⟨v, w', hr, h⟩ := hrun w hM
  refine lw_plain hg (by rw [ha.eval]; exact hr) (by simp) fun K hK => ?_
  show K (a.put o.dst v) w'
  rw [hd]
  exact hK _ _ (h _ (ha.put hlt v))
/-- an operation that yields nothing and changes the world -/
theorem gop_s (hrun : ∀ w, Mem w0 T w → ∃ w', (execOp (ev ρ) o).run P w = .ok .skip w' ∧ owp P n full rest N ρ w')
    (hg : o.guard = none) (hd : o.dst = none) : gops P n w0 full (o :: rest) N ρ T := by
  intro w hM a ha
  obtain ⟨w', hr, h⟩ := hrun w hM
  refine lw_plain hg (by rw [ha.eval]; exact hr) (by simp) fun K hK => ?_
  show K (a.put o.dst undef) w'
  rw [hd]
  exact hK _ _ (h a ha)
/-- a call of a function of the program -/
theorem gop_call {f : FuncId} {args : Array Value} (he : ∀ w, (execOp (ev ρ) o).run P w = .ok (.enter f args) w)
    (hc : ∀ w, Mem w0 T w → Calls P f args w (fun e w' => ∃ v, e = .returned v ∧ owp P n full rest N (upd ρ d v) w'))
    (hg : o.guard = none) (hd : o.dst = some d) (hlt : Nat.blt d n.n = true) : gops P n w0 full (o :: rest) N ρ T := by
  intro w hM a ha
  refine lw_plain hg (by rw [ha.eval]; exact he w) (by simp) fun K hK => ?_
  refine Calls.mono (hc w hM) ?_
  rintro e w' ⟨v, rfl, h⟩
  refine ⟨v, rfl, ?_⟩
  rw [hd]
  exact hK _ _ (h _ (ha.put hlt v))
/-- the callee's value is known; it changes nothing that was there -/
theorem gop_pure {f : FuncId} {args : Array Value} (he : ∀ w, (execOp (ev ρ) o).run P w = .ok (.enter f args) w)
    (hc : ∀ w, Mem w0 T w → Calls P f args w (fun e w' => e = .returned v ∧ Below w.heap.size w w'))
    (hg : o.guard = none) (hd : o.dst = some d) (hlt : Nat.blt d n.n = true) (h : gops P n w0 full rest N (upd ρ d v) T) : gops P n w0 full (o :: rest) N ρ T :=
  gop_call he (fun w hM => (hc w hM).mono fun _ w' ⟨he, hb⟩ => ⟨v, he, h w' (hM.call hb)⟩) hg hd hlt
/-- the callee hands back new memory; it changes nothing that was there -/
theorem gop_new {f : FuncId} {args : Array Value} (Φ : Nat → World → Value → Prop) (he : ∀ w, (execOp (ev ρ) o).run P w = .ok (.enter f args) w)
    (hc : ∀ w, Mem w0 T w → Calls P f args w (fun e w' => ∃ v, e = .returned v ∧ Below w.heap.size w w' ∧ Φ w.heap.size w' v))
    (hg : o.guard = none) (hd : o.dst = some d) (hlt : Nat.blt d n.n = true)
    (h : ∀ v lo ws, w0.heap.size ≤ lo → Φ lo ws v → gops P n w0 full rest N (upd ρ d v) (T ++ [seal_ lo ws])) : gops P n w0 full (o :: rest) N ρ T :=
  gop_call he (fun w hM => (hc w hM).mono fun _ w' ⟨v, he, hb, hΦ⟩ =>
    ⟨v, he, h v w.heap.size w' hM.low.size hΦ w' (hM.add hb (fun _ _ _ => rfl) (fun _ hk => hk))⟩) hg hd hlt

/-! guards -/
def boolOf : Value → Option Bool
  | .bool b => some b
  | _ => none
theorem yielded_of {a : Act} (ha : Is n ρ a) {j s : Nat} (hs : (full[j]?).bind (·.dst) = some s) (hlt : Nat.blt s n.n = true) {u : Value} (hv : ρ s = u) :
    yielded full a.tmps j = boolOf u := by
  have hd' : s < a.tmps.size := by rw [ha.size]; exact Nat.le_of_ble_eq_true hlt
  have h1 : a.tmps[s]? = some u := by
    have := ha.val s
    rw [Array.getD_eq_getD_getElem?, Array.getElem?_eq_getElem hd'] at this
    rw [Array.getElem?_eq_getElem hd', ← hv, ← this]; rfl
  unfold yielded
  rw [hs]
  simp only [Option.bind_some, h1]
  cases u <;> rfl

def bare (o : Oper) : Oper := { o with guard := none }
theorem execOp_bare (r : Operand → Value) (o : Oper) : execOp r (bare o) = execOp r o := rfl

theorem gop_on {j s : Nat} {b want : Bool} (hgd : o.guard = some (j, want)) (hs : (full[j]?).bind (·.dst) = some s) (hlt : Nat.blt s n.n = true) (hv : ρ s = .bool b) (hb : b = want)
    (h : gops P n w0 full (bare o :: rest) N ρ T) : gops P n w0 full (o :: rest) N ρ T := by
  intro w hM a ha
  have h1 := h w hM a ha
  have hy := yielded_of (full := full) ha hs hlt hv
  have hw : Region.wanted o (yielded full a.tmps) = true := by
    unfold Region.wanted; rw [hgd]; simp [hy, hb, boolOf]
  exact lw_on hw h1
theorem gop_off {j s : Nat} {b want : Bool} (hgd : o.guard = some (j, want)) (hs : (full[j]?).bind (·.dst) = some s) (hlt : Nat.blt s n.n = true) (hv : ρ s = .bool b) (hb : b = !want)
    (hd : o.dst = some d) (hlt' : Nat.blt d n.n = true) (h : gops P n w0 full rest N (upd ρ d undef) T) : gops P n w0 full (o :: rest) N ρ T := by
  intro w hM a ha
  have hy := yielded_of (full := full) ha hs hlt hv
  have hw : ¬ Region.wanted o (yielded full a.tmps) = true := by
    unfold Region.wanted; rw [hgd]; simp [hy, hb, boolOf]
  refine lw_off hw ?_
  rw [hd]
  exact h w hM _ (ha.put hlt' undef)
/-- the guarding operation was itself passed over -/
theorem gop_offu {j s : Nat} {want : Bool} (hgd : o.guard = some (j, want)) (hs : (full[j]?).bind (·.dst) = some s) (hlt : Nat.blt s n.n = true) (hv : ρ s = undef)
    (hd : o.dst = some d) (hlt' : Nat.blt d n.n = true) (h : gops P n w0 full rest N (upd ρ d undef) T) : gops P n w0 full (o :: rest) N ρ T := by
  intro w hM a ha
  have hy := yielded_of (full := full) ha hs hlt hv
  have hw : ¬ Region.wanted o (yielded full a.tmps) = true := by
    unfold Region.wanted; rw [hgd]; simp [hy, undef, boolOf]
  refine lw_off hw ?_
  rw [hd]
  exact h w hM _ (ha.put hlt' undef)

/-! a region that draws its order and only reads: one walk in the order of the text -/
def gqs (P : Program) (n : Fr) (w0 : World) (full : Array Oper) (l : List Oper) (Q : Env → Prop) (ρ : Env) (T : List Reg) : Prop :=
  ∀ a, Is n ρ a → wpQuiet P full (Mem w0 T) (fun a' => ∃ ρ', Is n ρ' a' ∧ Q ρ') l a
theorem greg_q {id : Nat} (hm : P.follows .mixedOrders = true) (hB : Region.lexB .any l.toArray = true) (h : gqs P n w0 l.toArray l (fun ρ' => Fin w0 N ρ' T) ρ T) (hrd : n.rd = none := by rfl) :
    gwp P n w0 (.region id l.toArray true) N X R ρ T := by
  intro w hM a ha
  refine cw_of_wp hrd ?_
  refine wp_region_quiet (C := Mem w0 T) hm hB (hM.drew rfl rfl rfl rfl) ?_
  have h1 := h a ha
  have mono : ∀ (full : Array Oper) (l : List Oper) (a : Act), wpQuiet P full (Mem w0 T) (fun a' => ∃ ρ', Is n ρ' a' ∧ Fin w0 N ρ' T) l a → wpQuiet P full (Mem w0 T) (fun a' => ∀ w', Mem w0 T w' → Out n N X R .normal a' w') l a := by
    intro full l
    induction l with
    | nil => intro a ⟨ρ', h1, h2⟩ w' hw'; exact ⟨ρ', h1, h2 w' hw'⟩
    | cons o l ih =>
      intro a h
      unfold wpQuiet at h ⊢
      split
      · rename_i hw; rw [if_pos hw] at h; obtain ⟨v, h1, h2⟩ := h; exact ⟨v, h1, ih _ h2⟩
      · rename_i hw; rw [if_neg hw] at h; exact ih _ h
  have := mono l.toArray l a h1
  simpa using this
theorem gqs_nil {Q : Env → Prop} (h : Q ρ) : gqs P n w0 full [] Q ρ T := fun _ ha => ⟨ρ, ha, h⟩
theorem gq {Q : Env → Prop} (hy : Yield P w0 T ρ o v) (hg : o.guard = none) (hd : o.dst = some d) (hlt : Nat.blt d n.n = true) (h : gqs P n w0 full rest Q (upd ρ d v) T) :
    gqs P n w0 full (o :: rest) Q ρ T := by
  intro a ha
  unfold wpQuiet
  rw [if_pos (by simp [Region.wanted, hg])]
  refine ⟨v, fun w hM => ?_, ?_⟩
  · unfold Oper.quietAt; rw [ha.eval, hy w hM]; exact ⟨rfl, rfl⟩
  · rw [hd]; exact h _ (ha.put hlt v)
theorem gq_pure {Q : Env → Prop} {f : FuncId} {args : Array Value} (he : ∀ w, (execOp (ev ρ) o).run P w = .ok (.enter f args) w)
    (hc : ∀ w, Mem w0 T w → Calls P f args w (fun e w' => e = .returned v ∧ Below w.heap.size w w'))
    (hg : o.guard = none) (hd : o.dst = some d) (hlt : Nat.blt d n.n = true) (h : gqs P n w0 full rest Q (upd ρ d v) T) : gqs P n w0 full (o :: rest) Q ρ T := by
  intro a ha
  unfold wpQuiet
  rw [if_pos (by simp [Region.wanted, hg])]
  refine ⟨v, fun w hM => ?_, ?_⟩
  · unfold Oper.quietAt; rw [ha.eval, he w]; exact ⟨rfl, (hc w hM).mono fun e w' ⟨h1, h2⟩ => ⟨h1, hM.call h2⟩⟩
  · rw [hd]; exact h _ (ha.put hlt v)
theorem gq_on {Q : Env → Prop} {j s : Nat} {b want : Bool} (hgd : o.guard = some (j, want)) (hs : (full[j]?).bind (·.dst) = some s) (hlt : Nat.blt s n.n = true) (hv : ρ s = .bool b) (hb : b = want)
    (h : gqs P n w0 full (bare o :: rest) Q ρ T) : gqs P n w0 full (o :: rest) Q ρ T := by
  intro a ha
  have h1 := h a ha
  have hy := yielded_of (full := full) ha hs hlt hv
  unfold wpQuiet at h1 ⊢
  have hw : Region.wanted o (yielded full a.tmps) = true := by
    unfold Region.wanted; rw [hgd]; simp [hy, hb, boolOf]
  rw [if_pos hw]
  rw [if_pos (by rfl)] at h1
  exact h1
theorem gq_off {Q : Env → Prop} {j s : Nat} {b want : Bool} (hgd : o.guard = some (j, want)) (hs : (full[j]?).bind (·.dst) = some s) (hlt : Nat.blt s n.n = true) (hv : ρ s = .bool b) (hb : b = !want)
    (hd : o.dst = some d) (hlt' : Nat.blt d n.n = true) (h : gqs P n w0 full rest Q (upd ρ d undef) T) : gqs P n w0 full (o :: rest) Q ρ T := by
  intro a ha
  have hy := yielded_of (full := full) ha hs hlt hv
  unfold wpQuiet
  have hw : ¬ Region.wanted o (yielded full a.tmps) = true := by
    unfold Region.wanted; rw [hgd]; simp [hy, hb, boolOf]
  rw [if_neg hw, hd]
  exact h _ (ha.put hlt' undef)
theorem gq_offu {Q : Env → Prop} {j s : Nat} {want : Bool} (hgd : o.guard = some (j, want)) (hs : (full[j]?).bind (·.dst) = some s) (hlt : Nat.blt s n.n = true) (hv : ρ s = undef)
    (hd : o.dst = some d) (hlt' : Nat.blt d n.n = true) (h : gqs P n w0 full rest Q (upd ρ d undef) T) : gqs P n w0 full (o :: rest) Q ρ T := by
  intro a ha
  have hy := yielded_of (full := full) ha hs hlt hv
  unfold wpQuiet
  have hw : ¬ Region.wanted o (yielded full a.tmps) = true := by
    unfold Region.wanted; rw [hgd]; simp [hy, undef, boolOf]
  rw [if_neg hw, hd]
  exact h _ (ha.put hlt' undef)
end

/-! ### cells -/
section
variable {w0 : World} {T : List Reg} {p : Addr} {v : Value}
theorem cell_base (h : w0.cell? p = some v) : Cell w0 T p v := fun _ hM => (hM.low.cell (World.block_lt_of_cell? w0 p h)).trans h
theorem cell_box (i : Nat) {b off : Nat} {cs : Array Value} {e : TypeId} {fz : Nat × Nat} (hi : T[i]? = some (box b (.cells cs e fz))) (h : cs[off]? = some v) : Cell w0 T ⟨b, off, none⟩ v :=
  fun w hM => by
    have : w.heap[b]? = some (.cells cs e fz) := hM.ok _ (List.mem_of_getElem? hi)
    simp [World.cell?, this, h]
theorem cell_seal (i : Nat) {lo : Nat} {ws : World} (hi : T[i]? = some (seal_ lo ws)) (hlo : lo ≤ p.block) (h : ws.cell? p = some v) : Cell w0 T p v :=
  fun w hM => by
    have h1 : ∀ k, lo ≤ k → k < ws.heap.size → w.heap[k]? = ws.heap[k]? := hM.ok _ (List.mem_of_getElem? hi)
    exact (World.cell?_of_block (h1 p.block hlo (World.block_lt_of_cell? ws p h))).trans h
theorem cell_row (i : Nat) {base : Nat} {e : TypeId} {size g n cap : Nat} {xs : List Value} {j : Nat} (hi : T[i]? = some (row base e size (.slice (some ⟨g, 0, none⟩) n cap) n xs)) (h : xs[j]? = some v) :
    Cell w0 T ((⟨g, 0, none⟩ : Addr).add j) v := fun w hM => by
    have h1 : w.ownsRow base e size (.slice (some ⟨g, 0, none⟩) n cap) n xs := hM.ok _ (List.mem_of_getElem? hi)
    exact h1.cells (g := g) rfl j v h
end
end Go.Cf
