/- Own walking frame, part B: what is known of memory, as a list of regions with footprints; the rules for code over (environment, list). Program independent. -/
import Derived.Test.YtijpaljdclhehaaDoorLibA
namespace Go.Cf
open Go.RowKit

structure Reg where
  has : Nat → Prop
  ok : World → Prop
  stays : ∀ w w' : World, (∀ b, has b → w'.heap[b]? = w.heap[b]?) → ok w → ok w'

/-- a block known whole -/
def box (b : Nat) (o : Obj) : Reg := ⟨fun k => k = b, fun w => w.heap[b]? = some o, fun _ _ h hw => (h b rfl).trans hw⟩
/-- a block of so many cells of a type, contents unknown -/
def room (b : Nat) (e : TypeId) (m : Nat) : Reg :=
  ⟨fun k => k = b, fun w => ∃ cs : Array Value, cs.size = m ∧ w.heap[b]? = some (.cells cs e (0, 0)), fun _ _ h ⟨cs, hm, hw⟩ => ⟨cs, hm, (h b rfl).trans hw⟩⟩
/-- the blocks from lo up to the end of the world ws, as they are there -/
def seal_ (lo : Nat) (ws : World) : Reg :=
  ⟨fun k => lo ≤ k ∧ k < ws.heap.size, fun w => ∀ k, lo ≤ k → k < ws.heap.size → w.heap[k]? = ws.heap[k]?, fun _ _ h hw k h1 h2 => (h k ⟨h1, h2⟩).trans (hw k h1 h2)⟩
/-- a slice of the call's own that may still grow -/
def row (base : Nat) (e : TypeId) (size : Nat) (v : Value) (n : Nat) (xs : List Value) : Reg :=
  ⟨fun k => v.ownBlock = some k, fun w => w.ownsRow base e size v n xs, fun w w' h hw => by
    refine ⟨hw.1, ?_⟩
    rcases hw.2 with h1 | ⟨g, cap, cur, rfl, h2, h3, h4⟩
    · exact .inl h1
    · exact .inr ⟨g, cap, cur, rfl, h2, (h g rfl).trans h3, h4⟩⟩

structure Mem (w0 : World) (T : List Reg) (w : World) : Prop where
  low : Below w0.heap.size w0 w
  ok : ∀ r ∈ T, r.ok w
  lt : ∀ r ∈ T, ∀ b, r.has b → b < w.heap.size
  ge : ∀ r ∈ T, ∀ b, r.has b → w0.heap.size ≤ b
  disj : T.Pairwise (fun r s => ∀ b, r.has b → s.has b → False)

/-- only blocks of the set S, and new ones, have changed -/
structure Chg (S : Nat → Prop) (w w' : World) : Prop where
  os : w'.os = w.os
  tape : w'.tape = w.tape
  output : w'.output = w.output
  size : w.heap.size ≤ w'.heap.size
  block : ∀ k, k < w.heap.size → ¬ S k → w'.heap[k]? = w.heap[k]?

theorem Chg.of_below {S : Nat → Prop} {w w' : World} (h : Below w.heap.size w w') : Chg S w w' := ⟨h.os, h.tape, h.output, h.size, fun k hk _ => h.block k hk⟩
theorem Chg.of_grownBy {w w' : World} {row : Option Nat} (h : w.grownBy w' row) : Chg (fun k => row = some k) w w' :=
  ⟨h.os, h.tape, h.output, h.size, fun k hk hn => h.block k hk (fun e => hn e.symm)⟩
theorem Chg.setCell (w : World) (a : Addr) (v : Value) : Chg (fun k => k = a.block) w (w.setCell a v) :=
  ⟨rfl, rfl, rfl, by simp, fun k _ hn => Below.heap_setCell w a v k hn⟩
theorem Chg.trans {S : Nat → Prop} {a b c : World} (h : Chg S a b) (k : Chg S b c) : Chg S a c :=
  ⟨k.os.trans h.os, k.tape.trans h.tape, k.output.trans h.output, Nat.le_trans h.size k.size, fun i hi hn => (k.block i (Nat.lt_of_lt_of_le hi h.size) hn).trans (h.block i hi hn)⟩

section
variable {w0 w w' : World} {T : List Reg}

theorem Mem.start (w : World) : Mem w [] w := ⟨Below.refl _ _, by simp, by simp, by simp, .nil⟩

theorem Mem.drew (h : Mem w0 T w) (hh : w'.heap = w.heap) (h1 : w'.os = w.os) (h2 : w'.tape = w.tape) (h3 : w'.output = w.output) : Mem w0 T w' :=
  ⟨⟨h1.trans h.low.os, h2.trans h.low.tape, h3.trans h.low.output, by rw [hh]; exact h.low.size, fun k hk => by rw [hh]; exact h.low.block k hk⟩,
   fun r hr => r.stays w w' (fun b _ => by rw [hh]) (h.ok r hr), fun r hr b hb => by rw [hh]; exact h.lt r hr b hb, h.ge, h.disj⟩

theorem Mem.call (h : Mem w0 T w) (hb : Below w.heap.size w w') : Mem w0 T w' :=
  ⟨h.low.trans (hb.mono h.low.size), fun r hr => r.stays w w' (fun b hbb => hb.block b (h.lt r hr b hbb)) (h.ok r hr),
   fun r hr b hbb => Nat.lt_of_lt_of_le (h.lt r hr b hbb) hb.size, h.ge, h.disj⟩

theorem Mem.add (h : Mem w0 T w) (hb : Below w.heap.size w w') {r : Reg} (hr : r.ok w') (hh : ∀ b, r.has b → w.heap.size ≤ b ∧ b < w'.heap.size) : Mem w0 (T ++ [r]) w' := by
  have h' := h.call hb
  refine ⟨h'.low, ?_, ?_, ?_, ?_⟩
  · intro s hs
    rcases List.mem_append.1 hs with hs | hs
    · exact h'.ok s hs
    · rw [List.mem_singleton.1 hs]; exact hr
  · intro s hs
    rcases List.mem_append.1 hs with hs | hs
    · exact h'.lt s hs
    · rw [List.mem_singleton.1 hs]; exact fun b hb => (hh b hb).2
  · intro s hs
    rcases List.mem_append.1 hs with hs | hs
    · exact h'.ge s hs
    · rw [List.mem_singleton.1 hs]; exact fun b hb => Nat.le_trans h.low.size (hh b hb).1
  · rw [List.pairwise_append]
    refine ⟨h.disj, List.pairwise_singleton _ _, ?_⟩
    intro s hs t ht b hb1 hb2
    rw [List.mem_singleton.1 ht] at hb2
    have := h.lt s hs b hb1
    have := (hh b hb2).1
    omega

theorem Mem.sub (h : Mem w0 T w) {T' : List Reg} (hs : List.Sublist T' T) : Mem w0 T' w :=
  ⟨h.low, fun r hr => h.ok r (hs.subset hr), fun r hr => h.lt r (hs.subset hr), fun r hr => h.ge r (hs.subset hr), h.disj.sublist hs⟩

theorem pairwise_set {R : Reg → Reg → Prop} : ∀ {T : List Reg} {i : Nat} {r r' : Reg}, T.Pairwise R → T[i]? = some r →
    (∀ s ∈ T, R s r → R s r') → (∀ s ∈ T, R r s → R r' s) → (T.set i r').Pairwise R
  | [], _, _, _, _, h, _, _ => by simp at h
  | t :: T, 0, r, r', hp, h, h1, h2 => by
    simp at h
    subst h
    simp only [List.set_cons_zero]
    rw [List.pairwise_cons] at hp ⊢
    exact ⟨fun s hs => h2 s (by simp [hs]) (hp.1 s hs), hp.2⟩
  | t :: T, i + 1, r, r', hp, h, h1, h2 => by
    simp at h
    simp only [List.set_cons_succ]
    rw [List.pairwise_cons] at hp ⊢
    have hr : r ∈ T := List.mem_of_getElem? h
    refine ⟨fun s hs => ?_, pairwise_set hp.2 h (fun s hs => h1 s (by simp [hs])) (fun s hs => h2 s (by simp [hs]))⟩
    rcases List.mem_or_eq_of_mem_set hs with hs | rfl
    · exact hp.1 s hs
    · exact h1 t (by simp) (hp.1 r hr)

theorem Mem.other (h : Mem w0 T w) {i : Nat} {r : Reg} (hi : T[i]? = some r) (hc : Chg r.has w w') : ∀ (j : Nat) (s : Reg), T[j]? = some s → j ≠ i → s.ok w' := by
  intro j s hj hne
  refine s.stays w w' (fun b hb => hc.block b (h.lt s (List.mem_of_getElem? hj) b hb) (fun hrb => ?_)) (h.ok s (List.mem_of_getElem? hj))
  have hp := h.disj
  rw [List.pairwise_iff_getElem] at hp
  obtain ⟨hi1, hi2⟩ := List.getElem?_eq_some_iff.1 hi
  obtain ⟨hj1, hj2⟩ := List.getElem?_eq_some_iff.1 hj
  rcases Nat.lt_or_ge i j with hlt | hge
  · exact hp i j hi1 hj1 hlt b (by rw [hi2]; exact hrb) (by rw [hj2]; exact hb)
  · exact hp j i hj1 hi1 (by omega) b (by rw [hj2]; exact hb) (by rw [hi2]; exact hrb)

theorem Mem.upd (h : Mem w0 T w) {i : Nat} {r r' : Reg} (hi : T[i]? = some r) (hc : Chg r.has w w') (hr : r'.ok w')
    (hh : ∀ b, r'.has b → (r.has b ∨ w.heap.size ≤ b) ∧ b < w'.heap.size) : Mem w0 (T.set i r') w' := by
  have hrT : r ∈ T := List.mem_of_getElem? hi
  refine ⟨?_, ?_, ?_, ?_, ?_⟩
  · refine ⟨hc.os.trans h.low.os, hc.tape.trans h.low.tape, hc.output.trans h.low.output, Nat.le_trans h.low.size hc.size, fun k hk => ?_⟩
    exact (hc.block k (Nat.lt_of_lt_of_le hk h.low.size) (fun hrk => by have := h.ge r hrT k hrk; omega)).trans (h.low.block k hk)
  · intro s hs
    obtain ⟨j, hj⟩ := List.mem_iff_getElem?.1 hs
    rw [List.getElem?_set] at hj
    split at hj
    · split at hj
      · injection hj with hj; rw [← hj]; exact hr
      · cases hj
    · rename_i hne
      exact h.other hi hc j s hj (fun e => hne e.symm)
  · intro s hs b hb
    rcases List.mem_or_eq_of_mem_set hs with hs | rfl
    · exact Nat.lt_of_lt_of_le (h.lt s hs b hb) hc.size
    · exact (hh b hb).2
  · intro s hs b hb
    rcases List.mem_or_eq_of_mem_set hs with hs | rfl
    · exact h.ge s hs b hb
    · rcases (hh b hb).1 with h1 | h1
      · exact h.ge r hrT b h1
      · exact Nat.le_trans h.low.size h1
  · refine pairwise_set h.disj hi (fun s hs hR b h1 h2 => ?_) (fun s hs hR b h1 h2 => ?_)
    · rcases (hh b h2).1 with h3 | h3
      · exact hR b h1 h3
      · have := h.lt s hs b h1; omega
    · rcases (hh b h1).1 with h3 | h3
      · exact hR b h3 h2
      · have := h.lt s hs b h2; omega
end

/-! ### code over (environment, list of regions) -/
def Fin (w0 : World) (N : Env → World → Prop) (ρ : Env) (T : List Reg) : Prop := ∀ w, Mem w0 T w → N ρ w
def gwp (P : Program) (n : Fr) (w0 : World) (c : Code) (N : Env → World → Prop) (X : Nat → Env → World → Prop) (R : Env → World → Prop) (ρ : Env) (T : List Reg) : Prop :=
  ∀ w, Mem w0 T w → cwp P n c N X R ρ w

section
variable {P : Program} {n : Fr} {w0 : World} {N : Env → World → Prop} {X : Nat → Env → World → Prop} {R : Env → World → Prop} {ρ : Env} {T : List Reg}

theorem gseq {x y : Code} (h : ∀ N' : Env → World → Prop, (∀ ρ T, gwp P n w0 y N X R ρ T → Fin w0 N' ρ T) → gwp P n w0 x N' X R ρ T) : gwp P n w0 (.seq x y) N X R ρ T :=
  fun w hM => cwp_seq (h _ (fun _ _ hg w hM => hg w hM) w hM)
theorem gskip (h : Fin w0 N ρ T) : gwp P n w0 .skip N X R ρ T := fun w hM => cwp_skip (h w hM)
theorem gexit {i : Nat} (h : Fin w0 (X i) ρ T) : gwp P n w0 (.exit i) N X R ρ T := fun w hM => cwp_exit (h w hM)
theorem gret (h : Fin w0 R ρ T) : gwp P n w0 .ret N X R ρ T := fun w hM => cwp_ret (h w hM)
theorem gcond {c : Operand} {x y : Code} {b : Bool} (hc : ev ρ c = .bool b) (h1 : b = true → gwp P n w0 x N X R ρ T) (h2 : b = false → gwp P n w0 y N X R ρ T) :
    gwp P n w0 (.cond c x y) N X R ρ T := fun w hM => cwp_cond hc (fun hb => h1 hb w hM) (fun hb => h2 hb w hM)
theorem gblock {i : Nat} {c : Code} (h : gwp P n w0 c N (fun j => bif Nat.beq j i then N else X j) R ρ T) : gwp P n w0 (.block i c) N X R ρ T :=
  fun w hM => cwp_block (h w hM)
/-- only the slots of L matter from here on -/
theorem gfrom {c : Code} (L : List (Nat × Value)) (hL : agree ρ L) (h : ∀ σ, gwp P n w0 c N X R (updL σ L) T) : gwp P n w0 c N X R ρ T := by
  rw [← updL_self ρ L hL]; exact h ρ
/-- only the regions of T' matter from here on -/
theorem gsub {c : Code} (T' : List Reg) (hT : List.Sublist T' T) (h : gwp P n w0 c N X R ρ T') : gwp P n w0 c N X R ρ T := fun w hM => h w (hM.sub hT)
/-- a cut: what holds behind a piece of code -/
theorem gcut {c : Code} {G : Type} (φ : G → Prop) (L : G → List (Nat × Value)) (T' : G → List Reg)
    (h1 : gwp P n w0 c (fun ρ' w' => ∃ g, φ g ∧ agree ρ' (L g) ∧ Mem w0 (T' g) w') X R ρ T)
    (h2 : ∀ g, φ g → ∀ σ, Fin w0 N (updL σ (L g)) (T' g)) : gwp P n w0 c N X R ρ T := by
  intro w hM a ha
  refine cw_mono (h1 w hM a ha) fun e a' w' q => ?_
  cases e with
  | normal =>
    obtain ⟨ρ', hI, g, hφ, hL, hM'⟩ := q
    exact ⟨ρ', hI, by have := h2 g hφ ρ' w' hM'; rwa [updL_self ρ' _ hL] at this⟩
  | exit i => exact q
  | ret => exact q
  | goto l => exact q
  | panic c => exact q
  | outgrown => exact q
theorem gcut_end {G : Type} {φ : G → Prop} {L : G → List (Nat × Value)} {T' : G → List Reg} (g : G) (hφ : φ g) (hL : agree ρ (L g)) (hT : List.Sublist (T' g) T) :
    Fin w0 (fun ρ' w' => ∃ g, φ g ∧ agree ρ' (L g) ∧ Mem w0 (T' g) w') ρ T := fun _ hM => ⟨g, hφ, hL, hM.sub hT⟩
theorem gloop {c : Code} {G : Type} (φ : G → Prop) (μ : G → Nat) (L : G → List (Nat × Value)) (T' : G → List Reg)
    (g0 : G) (h0 : φ g0) (hL : agree ρ (L g0)) (hT : List.Sublist (T' g0) T)
    (round : ∀ g, φ g → ∀ σ, gwp P n w0 c (fun ρ' w' => ∃ g', μ g' < μ g ∧ φ g' ∧ agree ρ' (L g') ∧ Mem w0 (T' g') w') X R (updL σ (L g)) (T' g)) :
    gwp P n w0 (.loop c) N X R ρ T := by
  intro w hM
  refine cwp_loop (fun m ρ w => ∃ g, μ g = m ∧ φ g ∧ agree ρ (L g) ∧ Mem w0 (T' g) w) (μ g0) ⟨g0, rfl, h0, hL, hM.sub hT⟩ ?_
  rintro m ρ1 w1 ⟨g, rfl, hφ, hL1, hM1⟩
  have h := round g hφ ρ1 w1 hM1
  rw [updL_self ρ1 _ hL1] at h
  intro a ha
  refine cw_mono (h a ha) fun e a' w' q => ?_
  cases e with
  | normal =>
    obtain ⟨ρ', hI, g', hlt, hφ', hL', hM'⟩ := q
    exact ⟨ρ', hI, μ g', hlt, g', rfl, hφ', hL', hM'⟩
  | exit i => exact q
  | ret => exact q
  | goto l => exact q
  | panic c => exact q
  | outgrown => exact q
theorem gnext {G : Type} {φ : G → Prop} {μ : G → Nat} {L : G → List (Nat × Value)} {T' : G → List Reg} {m : Nat} (g : G) (hlt : μ g < m) (hφ : φ g) (hL : agree ρ (L g)) (hT : List.Sublist (T' g) T) :
    Fin w0 (fun ρ' w' => ∃ g', μ g' < m ∧ φ g' ∧ agree ρ' (L g') ∧ Mem w0 (T' g') w') ρ T := fun _ hM => ⟨g, hlt, hφ, hL, hM.sub hT⟩
end

/-! ### a call of a function, from its body -/
def envOf (args : Array Value) : Env := fun t => args.getD t undef
theorem is_start (args : Array Value) (n : Nat) (h : args.size ≤ n) : Is (.plain n) (envOf args) { tmps := args ++ Array.replicate (n - args.size) undef, defers := [] } := by
  refine ⟨rfl, by simp; omega, fun t => ?_⟩
  simp only [envOf, Array.getD_eq_getD_getElem?, Array.getElem?_append]
  split
  · rfl
  · rename_i hlt
    rw [Array.getElem?_replicate]
    rw [Array.getElem?_eq_none (by omega)]
    split <;> rfl

/-- what the results' variables hold -/
def resOf (P : Program) (fn : Func) (ρ : Env) (w : World) (v : Value) : Prop := ∀ tmps : Array Value, (∀ t, tmps.getD t undef = ρ t) → (results fn tmps).run P w = .ok v w

theorem gleaves {P : Program} {fn : Func} {R : Ending → World → Prop} {n : Nat} {c : Code} {a : Act} {w : World}
    (h : cw (.plain n) P c (Out (.plain n) (fun ρ w' => ∃ v, resOf P fn ρ w' v ∧ R (.returned v) w') (fun _ _ _ => False) (fun ρ w' => ∃ v, resOf P fn ρ w' v ∧ R (.returned v) w')) a w) :
    c.wpIn Fence.wide 0 P (bodyPostM Fence.wide 0 P fn R) a w := by
  refine wpIn_wide.2 (wp_mono (wp_of_cw rfl h) fun e a' w' q => ?_)
  cases e with
  | normal =>
    obtain ⟨ρ, hI, v, hv, hR⟩ := q
    show LeavesInM _ _ _ _ _ _ a'.defers _ _
    rw [hI.defers]; exact ⟨v, hv _ hI.val, hR⟩
  | ret =>
    show LeavesInM _ _ _ _ _ _ a'.defers _ _
    obtain ⟨ρ, _, hv0, ⟨hd, v, hv, hR⟩ | ⟨_, _, D, hd, hK, v, hv, hR⟩⟩ := q
    · rw [hd]; exact ⟨v, hv _ hv0, hR⟩
    · rw [hd]; exact ⟨by simp, .inl ⟨D, _, rfl, run_takeDeferred hK, v, hv _ hv0, hR⟩⟩
  | exit i => obtain ⟨ρ, hI, hf⟩ := q; exact hf.elim
  | goto l => exact q.elim
  | panic c => exact q.elim
  | outgrown => exact q.elim
theorem gcalls {P : Program} {f : FuncId} {fn : Func} {c : Code} {args : Array Value} {w : World} {R : Ending → World → Prop} {n : Nat}
    (hf : P.funcs[f]? = some fn) (hb : fn.body = some c) (hn : fn.ntmps = n) (hs : args.size ≤ n)
    (h : gwp P (.plain n) w c (fun ρ w' => ∃ v, resOf P fn ρ w' v ∧ R (.returned v) w') (fun _ _ _ => False) (fun ρ w' => ∃ v, resOf P fn ρ w' v ∧ R (.returned v) w') (envOf args) []) :
    Calls P f args w R := by
  refine callsIn_wide.1 (callsIn_of_wp_marks (F := Fence.wide) (n := 0) hf hb trivial ?_)
  rw [hn]
  exact gleaves (h w (Mem.start w) _ (is_start args n hs))
end Go.Cf
