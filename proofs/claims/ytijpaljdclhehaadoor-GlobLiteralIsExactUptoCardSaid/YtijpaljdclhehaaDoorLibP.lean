/- Own walking frame, part P: ranges over functions: iterators, rounds, what is left behind. Program independent. -/
import Derived.Test.YtijpaljdclhehaaDoorLibO
import Derived.RangeFuncSeq
namespace Go.Cf
open Go.RowKit

/-- regions in one, with the word that they lie apart -/
def pk (E : List Reg) : Reg :=
  ⟨fun b => ∃ r ∈ E, r.has b, fun w => (∀ r ∈ E, r.ok w) ∧ E.Pairwise (fun (r s : Reg) => ∀ b : Nat, r.has b → s.has b → False), fun w w' h hw => ⟨fun r hr => r.stays w w' (fun b hb => h b ⟨r, hr, hb⟩) (hw.1 r hr), hw.2⟩⟩
/-- a fact that speaks of no world -/
def sure (p : Prop) : Reg := ⟨fun _ => False, fun _ => p, fun _ _ _ h => h⟩
section
variable {w0 w w' : World} {T E G : List Reg} {P : Program}
theorem Mem.pk (h : Mem w0 (E ++ G) w) : Mem w0 (pk E :: G) w := by
  have hp := List.pairwise_append.1 h.disj
  refine ⟨h.low, ?_, ?_, ?_, ?_⟩
  · intro q hq
    rcases List.mem_cons.1 hq with rfl | hq
    · exact ⟨fun r hr => h.ok r (by simp [hr]), hp.1⟩
    · exact h.ok q (by simp [hq])
  · intro q hq b hb
    rcases List.mem_cons.1 hq with rfl | hq
    · obtain ⟨r, hr, hb⟩ := hb; exact h.lt r (by simp [hr]) b hb
    · exact h.lt q (by simp [hq]) b hb
  · intro q hq b hb
    rcases List.mem_cons.1 hq with rfl | hq
    · obtain ⟨r, hr, hb⟩ := hb; exact h.ge r (by simp [hr]) b hb
    · exact h.ge q (by simp [hq]) b hb
  · rw [List.pairwise_cons]
    exact ⟨fun s hs b h1 h2 => by obtain ⟨r, hr, h1⟩ := h1; exact hp.2.2 r hr s hs b h1 h2, hp.2.1⟩
theorem Mem.unpk (h : Mem w0 (Go.Cf.pk E :: G) w) : Mem w0 (E ++ G) w := by
  have hp := List.pairwise_cons.1 h.disj
  have h0 := h.ok (Go.Cf.pk E) (by simp)
  refine ⟨h.low, ?_, ?_, ?_, ?_⟩
  · intro q hq
    rcases List.mem_append.1 hq with hq | hq
    · exact h0.1 q hq
    · exact h.ok q (by simp [hq])
  · intro q hq b hb
    rcases List.mem_append.1 hq with hq | hq
    · exact h.lt (Go.Cf.pk E) (by simp) b ⟨q, hq, hb⟩
    · exact h.lt q (by simp [hq]) b hb
  · intro q hq b hb
    rcases List.mem_append.1 hq with hq | hq
    · exact h.ge (Go.Cf.pk E) (by simp) b ⟨q, hq, hb⟩
    · exact h.ge q (by simp [hq]) b hb
  · rw [List.pairwise_append]
    exact ⟨h0.2, hp.2, fun r hr s hs b h1 h2 => hp.1 s hs b ⟨r, hr, h1⟩ h2⟩
theorem Mem.sure {p : Prop} (h : Mem w0 T w) (hp : p) : Mem w0 (sure p :: T) w :=
  ⟨h.low, fun r hr => by rcases List.mem_cons.1 hr with rfl | hr; exact hp; exact h.ok r hr, fun r hr b hb => by rcases List.mem_cons.1 hr with rfl | hr; exact hb.elim; exact h.lt r hr b hb,
   fun r hr b hb => by rcases List.mem_cons.1 hr with rfl | hr; exact hb.elim; exact h.ge r hr b hb, List.pairwise_cons.2 ⟨fun _ _ _ hb => hb.elim, h.disj⟩⟩
/-- a block that is known whole is turned -/
theorem Mem.turn {b : Nat} {o o' : Obj} (i : Nat) (hi : T[i]? = some (box b o)) (h : Mem w0 T w) : Mem w0 (T.set i (box b o')) (w.putObj b o') := by
  have hlt : b < w.heap.size := h.lt _ (List.mem_of_getElem? hi) b rfl
  exact h.upd hi ⟨rfl, rfl, rfl, by simp, fun k _ hk => World.putObj_heap_other hk⟩ (World.putObj_heap_same hlt) (fun k hk => ⟨.inl hk, by have hk' : k = b := hk; subst hk'; simpa using hlt⟩)
theorem mem_obj (o : Obj) (hM : Mem w0 T w) : Mem w0 (T ++ [box w.heap.size o]) (w.alloc o) :=
  hM.add ((Below.refl _ _).alloc (Nat.le_refl _) _) (World.alloc_heap_new w _) (fun b hb => by
    have hb' : b = w.heap.size := hb
    subst hb'; simp)
end

/-- AN ITERATOR: it hands over the elements of xs, one after the other, until a round says no more. J: what the caller knows between two rounds; Jx: where a round has said no more. -/
def Iters {α : Type} (P : Program) (gf : FuncId) (lb : List Value) (encs : α → List Value) (xs : List α) (It : List Reg) : Prop :=
  ∀ (w0 W : World) (l : Nat) (J Jx : Nat → Reg), Mem w0 (J 0 :: It) W →
    (∀ k x r W1, xs[k]? = some x → Mem w0 [J k, r] W1 → YieldAt Fence.wide 0 P l (encs x).toArray W1 fun e W' => ∃ b : Bool, e = .returned (.bool b) ∧ Mem w0 [if b then J (k + 1) else Jx k, r] W') →
    Calls P gf (.func (.yield l) #[] #[] :: lb).toArray W fun e W' => (∃ v, e = .returned v) ∧ (Mem w0 [J xs.length] W' ∨ ∃ k, k < xs.length ∧ Mem w0 [Jx k] W')

/-! ### the iterator's side: a call of yield -/
section
variable {P : Program} {n : Fr} {w0 : World} {N : Env → World → Prop} {X : Nat → Env → World → Prop} {R : Env → World → Prop} {ρ : Env} {T E : List Reg} {full : Array Oper} {rest : List Oper} {o : Oper} {d : Nat} {c : Code}
  {ty : TypeId} {pos : String} {af : Array Edge} {x : Operand}
def Rounds (P : Program) (w0 : World) (l : Nat) (J Jx : Nat → Reg) (k : Nat) (vs : List Value) : Prop :=
  ∀ r W1, Mem w0 [J k, r] W1 → YieldAt Fence.wide 0 P l vs.toArray W1 fun e W' => ∃ b : Bool, e = .returned (.bool b) ∧ Mem w0 [if b then J (k + 1) else Jx k, r] W'
theorem gop_yield {l k : Nat} {J Jx : Nat → Reg} {args : Array Operand} {ats : Array TypeId} {vs : List Value} (hrd : n.rd = some none) (hv : ev ρ x = .func (.yield l) #[] #[]) (ha : args.toList.map (ev ρ) = vs)
    (hY : Rounds P w0 l J Jx k vs) (hlt : Nat.blt d n.n = true) (h : ∀ b : Bool, gops P n w0 full rest N (upd ρ d (.bool b)) ((if b then J (k + 1) else Jx k) :: E)) :
    gops P n w0 full (⟨some d, .call { callee := .value x, args := args, argTypes := ats }, ty, pos, af, none⟩ :: rest) N ρ (J k :: E) := by
  intro w hM a hI
  unfold lw
  rw [hrd]
  have e : args.map (ev ρ) = vs.toArray := by rw [← ha, ← Array.toList_map, Array.toArray_toList]
  have hpk : Mem w0 [J k, pk E] w := (((hM.perm (List.perm_append_comm (l₁ := [J k]) (l₂ := E))).pk).perm (List.Perm.swap _ _ _))
  obtain ⟨fn, tmps, assign, body, hy, hR⟩ := hY (pk E) w hpk
  refine wpListIn_plain rfl fun K hK => ⟨fun _ _ => trivial, ?_⟩
  have hex : (execOp (ev ρ) ⟨some d, .call { callee := .value x, args := args, argTypes := ats }, ty, pos, af, none⟩).run P w = .ok (.round l fn tmps assign body) w := by
    simp [execOp, resolve, Deferred.ofValue, hv, invoke, e, hy]
  rw [Oper.semAt_eq _ _ _ (by simp), hI.eval, hex, Oper.uponIn_round]
  refine ⟨fun h => (by cases h), hR.mono ?_⟩
  rintro e2 W' ⟨b, rfl, hM'⟩
  refine hK _ _ ?_
  have h2 := h b W' ((hM'.perm (List.Perm.swap _ _ _)).unpk.perm List.perm_append_comm) _ (hI.put hlt (.bool b))
  unfold lw at h2
  rw [hrd] at h2
  exact h2
/-- the iterator's body -/
theorem gcallsI {f : FuncId} {fn : Func} {args : Array Value} {w : World} {R : Ending → World → Prop} {n : Nat}
    (hf : P.funcs[f]? = some fn) (hb : fn.body = some c) (hn : fn.ntmps = n) (hs : args.size ≤ n) (hM : Mem w0 T w)
    (h : gwp P ⟨n, [], some none⟩ w0 c (fun ρ w' => ∃ v, resOf P fn ρ w' v ∧ R (.returned v) w') (fun _ _ _ => False) (fun ρ w' => ∃ v, resOf P fn ρ w' v ∧ R (.returned v) w') (envOf args) T) :
    Calls P f args w R := by
  refine callsIn_wide.1 (callsIn_of_wp_marks (F := Fence.wide) (n := 0) hf hb trivial ?_)
  rw [hn]
  have hst := is_start args n hs
  refine wpIn_mono (h w hM _ ⟨hst.defers, hst.size, hst.val⟩) fun e a' w' q => ?_
  cases e with
  | normal =>
    obtain ⟨ρ, hI, v, hv, hR⟩ := q
    show LeavesInM _ _ _ _ _ _ a'.defers _ _
    rw [hI.defers]; exact ⟨v, hv _ hI.val, hR⟩
  | ret =>
    show LeavesInM _ _ _ _ _ _ a'.defers _ _
    obtain ⟨ρ, _, hv0, ⟨hd, v, hv, hR⟩ | ⟨_, hno, _⟩⟩ := q
    · rw [hd]; exact ⟨v, hv _ hv0, hR⟩
    · cases hno
  | exit i => obtain ⟨ρ, hI, hf⟩ := q; exact hf.elim
  | goto l => exact q.elim
  | panic c => exact q.elim
  | outgrown => exact q.elim
end

/-! ### the caller's side -/
section
variable {P : Program} {w0 : World} {N : Env → World → Prop} {X : Nat → Env → World → Prop} {R : Env → World → Prop} {ρ : Env} {T : List Reg}
abbrev mark (D : Nat) : Deferred := { target := .collected D, args := #[] }
/-- at a return behind the loop -/
def Marked (D : Nat) (R : Env → World → Prop) (ρ : Env) (w : World) : Prop := w.heap[D]? = some (.deferred (some [])) ∧ R ρ (w.putObj D (.deferred none))
theorem fin_marked {D : Nat} (i : Nat) {T' : List Reg} (hi : T[i]? = some (box D (.deferred (some [])))) (hT : T.set i (box D (.deferred none)) = T') (h : Fin w0 R ρ T') : Fin w0 (Marked D R) ρ T := fun w hM =>
  ⟨hM.ok _ (List.mem_of_getElem? hi), h _ (by subst hT; exact hM.turn i hi)⟩
theorem zip_is {n : Nat} {a : Act} (hI : Is (.plain n) ρ a) : ∀ (ps : List Tmp) (vs : List Value) (t : Array Value) (σ : Env), (∀ p ∈ ps, p < n) → t.size = n → (∀ q, t.getD q undef = σ q) → ps.length = vs.length →
    ∃ t', (ps.zip vs).foldl (fun t (p, v) => t.setIfInBounds p v) t = t' ∧ t'.size = n ∧ ∀ q, t'.getD q undef = ((ps.zip vs).foldl (fun σ (p, v) => upd σ p v) σ) q
  | [], _, t, σ, _, h1, h2, _ => ⟨t, by simp, h1, by simpa using h2⟩
  | p :: ps, [], t, σ, _, h1, h2, h3 => by simp at h3
  | p :: ps, v :: vs, t, σ, h0, h1, h2, h3 => by
    have hp := h0 p (by simp)
    obtain ⟨t', e1, e2, e3⟩ := zip_is hI ps vs (t.setIfInBounds p v) (upd σ p v) (fun q hq => h0 q (by simp [hq])) (by simpa using h1) (fun q => by
      by_cases e : q = p
      · subst e
        have : q < t.size := Nat.lt_of_lt_of_eq hp h1.symm
        simp [upd_same, this]
      · rw [upd_other _ _ e, ← h2 q]
        simp only [Array.getD_eq_getD_getElem?]
        rw [Array.getElem?_setIfInBounds_ne (fun h => e h.symm)]) (by simpa using h3)
    exact ⟨t', by simpa using e1, e2, by simpa using e3⟩
def zipEnv (ρ : Env) (ps : List Tmp) (vs : List Value) : Env := (ps.zip vs).foldl (fun σ (p, v) => upd σ p v) ρ
/-- a piece of code and what comes behind it -/
def gthen (P : Program) (n : Fr) (w0 : World) (b y : Code) (N : Env → World → Prop) (X : Nat → Env → World → Prop) (R : Env → World → Prop) (ρ : Env) (T : List Reg) : Prop :=
  ∀ w, Mem w0 T w → ∀ a, Is n ρ a → cw n P b (Exit.then (cw n P y (Out n N X R)) (Out n N X R)) a w
theorem gseqB {n : Fr} {b y : Code} (h : gthen P n w0 b y N X R ρ T) : gwp P n w0 (.seq b y) N X R ρ T := fun w hM a ha => cw_seq (h w hM a ha)
theorem gseqAB {n : Fr} {x b y : Code} (h : ∀ N' : Env → World → Prop, (∀ ρ T, gthen P n w0 b y N X R ρ T → Fin w0 N' ρ T) → gwp P n w0 x N' X R ρ T) : gwp P n w0 (.seq (.seq x b) y) N X R ρ T := by
  intro w hM a ha
  refine cw_seq (cw_seq (cw_mono (h (fun ρ w => ∀ a, Is n ρ a → cw n P b (Exit.then (cw n P y (Out n N X R)) (Out n N X R)) a w) (fun _ _ hg w hM => hg w hM) w hM a ha) fun e a' w' q => ?_))
  cases e with
  | normal => obtain ⟨ρ', h1, h2⟩ := q; exact h2 a' h1
  | exit i => exact q
  | ret => exact q
  | goto l => exact q
  | panic c => exact q
  | outgrown => exact q
theorem e_enter {f : FuncId} {fn : Func} (hf : P.funcs[f]? = some fn) (hb : fn.body.isSome = true) (hnm : (fn.name == "runtime.NumGoroutine") = false) (args : Array Value) (w : World) : (callFunc f args).run P w = .ok (.enter f args) w := by
  obtain ⟨c, hc⟩ := Option.isSome_iff_exists.1 hb
  have hnm' : ¬ fn.name = "runtime.NumGoroutine" := by simpa using hnm
  simp [callFunc, hf, hc, hnm']
theorem gthen_from {n : Fr} {b y : Code} (L : List (Nat × Value)) (hL : agree ρ L) (h : ∀ σ, gthen P n w0 b y N X R (updL σ L) T) : gthen P n w0 b y N X R ρ T := by
  rw [← updL_self ρ L hL]; exact h ρ
theorem gthen_T {n : Fr} {b y : Code} (T' : List Reg) (hT : T = T') (h : gthen P n w0 b y N X R ρ T') : gthen P n w0 b y N X R ρ T := by subst hT; exact h
theorem grange {α : Type} {n i : Nat} {g : Operand} {ps : List Tmp} {assign body y : Code} {gf : FuncId} {lb : List Value} {encs : α → List Value} {xs : List α} {It : List Reg} (Jl Jxl : Nat → List Reg)
    (hg : ev ρ g = .func (.func gf) #[] lb.toArray) (eg : ∀ args w, (callFunc gf args).run P w = .ok (.enter gf args) w) (hit : Iters P gf lb encs xs It)
    (hT : Weak w0 T (Jl 0 ++ It)) (hps : ∀ p ∈ ps, p < n) (hen : ∀ x, (encs x).length = ps.length)
    (hround : ∀ (l k : Nat) (x : α) (q : Reg), xs[k]? = some x → ∀ N' : Env → World → Prop,
      (∀ ρ1 Tx, (∀ q2, gwp P ⟨n, [], some (some l)⟩ w0 body (fun _ w => Mem w0 (q2 :: Jl (k + 1)) w) (fun _ _ _ => False) (fun _ w => Mem w0 (q2 :: Jxl k) w) ρ1 (q2 :: Tx)) → Fin w0 N' ρ1 (q :: Tx)) →
      gwp P ⟨n, [], some (some l)⟩ w0 assign N' (fun _ _ _ => False) (fun _ _ => False) (zipEnv ρ ps (encs x)) (q :: Jl k))
    (hdone : ∀ D q, gwp P ⟨n, [mark D], none⟩ w0 y (fun _ _ => False) (fun _ _ _ => False) (Marked D R) ρ (box D (.deferred (some [])) :: q :: Jl xs.length))
    (hstop : ∀ D q k, k < xs.length → Fin w0 R ρ (box D (.deferred none) :: q :: Jxl k)) :
    gthen P (.plain n) w0 (.block i (.rangeFunc g ps.toArray assign body)) y N X R ρ T := by
  intro w hM a ha
  refine cw_block ?_
  show Code.wp _ _ _ _ _
  refine (wpIn_wide (n := 0)).1 (wpIn_rangeFunc (F := Fence.wide) ?_)
  intro fn _
  obtain ⟨rec, hrec⟩ : ∃ rec : LoopState → Option Code → Loop, rec = fun st pe => { state := st, pending := pe, fn, tmps := a.tmps, params := ps.toArray, assign, body, defers := w.heap.size } := ⟨_, rfl⟩
  obtain ⟨W1, hW1⟩ : ∃ W1, (w.alloc (.deferred (some []))).alloc (.loop (rec .ready none)) = W1 := ⟨_, rfl⟩
  obtain ⟨D, hD⟩ : ∃ D, D = w.heap.size := ⟨_, rfl⟩
  obtain ⟨L, hL⟩ : ∃ L, L = w.heap.size + 1 := ⟨_, rfl⟩
  have hM1 : Mem w0 ((Jl 0 ++ It) ++ [box D (.deferred (some []))] ++ [box L (.loop (rec .ready none))]) W1 := by
    have h1 := mem_obj (.loop (rec .ready none)) (mem_obj (.deferred (some [])) (hT w hM))
    rw [hW1, World.size_alloc, ← hL, ← hD] at h1
    exact h1
  refine ⟨L, [mark D], W1, { target := .fn (.func gf) lb.toArray, args := #[.func (.yield L) #[] #[]] }, W1, gf, (.func (.yield L) #[] #[] :: lb).toArray, W1, ?_, ?_, fun _ _ => trivial, ?_, fun h => (by cases h), ?_⟩
  · rw [← hW1, hrec, hL, hD]; exact run_enterLoop_outer _ _ _ _ _
  · have hg' : a.eval g = .func (.func gf) #[] lb.toArray := by rw [ha.eval]; exact hg
    simp only [resolve, hg']
    simp [go_sem]
  · simp [invoke, go_sem, eg]
  refine callsIn_wide.2 ?_
  have h0 : Mem w0 (pk ([box D (.deferred (some [])), box L (.loop (rec .ready none))] ++ Jl 0) :: It) W1 := by
    refine Mem.pk (hM1.perm ?_)
    simp only [List.append_assoc, List.cons_append, List.nil_append]
    refine List.Perm.trans ?_ ((List.perm_append_comm (l₁ := Jl 0 ++ It) (l₂ := [box D (.deferred (some [])), box L (.loop (rec .ready none))])).trans ?_)
    · simp
    · simp
  refine (hit w0 W1 L (fun k => pk ([box D (.deferred (some [])), box L (.loop (rec .ready none))] ++ Jl k)) (fun k => pk ([box D (.deferred (some [])), box L (.loop (rec .done (some .ret)))] ++ Jxl k)) h0 ?_).mono ?_
  · -- one round
    intro k x r W2 hx hM2
    have hM3 : Mem w0 (box D (.deferred (some [])) :: box L (.loop (rec .ready none)) :: (Jl k ++ [r])) W2 := by simpa using hM2.unpk
    have hl : W2.heap[L]? = some (.loop (rec .ready none)) := hM3.ok (box L (.loop (rec .ready none))) (by simp)
    have hy := run_yield (P := P) (args := (encs x).toArray) hl (by rw [hrec]; simp [hen x])
    rw [hrec] at hy
    obtain ⟨t', e1, e2, e3⟩ := zip_is ha ps (encs x) a.tmps ρ hps ha.size ha.val (hen x).symm
    have e1' : ((ps.toArray.zip (encs x).toArray).foldl (fun tmps (p : Tmp × Value) => tmps.setIfInBounds p.1 p.2) a.tmps) = t' := by
      rw [← e1]; simp
    refine ⟨fn, t', assign, body, by rw [← e1']; exact hy, roundIn_of_wpIn trivial ?_⟩
    have hq1 : Mem w0 (pk [box D (.deferred (some [])), box L (.loop (rec .ready none)), r] :: Jl k) W2 := by
      refine Mem.pk (hM3.perm ?_)
      simp only [List.cons_append, List.nil_append]
      exact List.Perm.cons _ (List.Perm.cons _ (List.perm_append_comm (l₂ := [r])))
    have hw := hround L k x (pk [box D (.deferred (some [])), box L (.loop (rec .ready none)), r]) hx
      (fun ρ1 w1 => ∃ w2, (Instr.beginRound L).run P w1 = .ok () w2 ∧ ∀ a, Is ⟨n, [], some (some L)⟩ ρ1 a → body.wpIn (Fence.wide.inRound L) 0 P (roundPost P L fun e W' => ∃ b : Bool, e = .returned (.bool b) ∧
        Mem w0 [if b then pk ([box D (.deferred (some [])), box L (.loop (rec .ready none))] ++ Jl (k + 1)) else pk ([box D (.deferred (some [])), box L (.loop (rec .done (some .ret)))] ++ Jxl k), r] W') a w2) ?_ W2 hq1 { tmps := t', defers := [] } ⟨rfl, e2, e3⟩
    · refine wpIn_mono hw fun e a1 w1 q => ?_
      cases e with
      | normal => obtain ⟨ρ1, hI, w2, h1, h2⟩ := q; exact ⟨w2, h1, h2 a1 hI⟩
      | exit i => obtain ⟨_, _, hf⟩ := q; exact hf
      | ret => exact q.none
      | goto l => exact q
      | panic c => exact q
      | outgrown => exact q
    · -- the body
      intro ρ1 Tx hb w1 hMx
      have hMx2 : Mem w0 (box D (.deferred (some [])) :: box L (.loop (rec .ready none)) :: r :: Tx) w1 := by simpa using hMx.unpk
      have hl1 : w1.heap[L]? = some (.loop (rec .ready none)) := hMx2.ok (box L (.loop (rec .ready none))) (by simp)
      have hbusy := hMx2.turn (o' := .loop { rec .ready none with state := .busy }) 1 rfl
      refine ⟨_, run_beginRound hl1 (by rw [hrec]), fun a2 hI2 => ?_⟩
      have hq2 : Mem w0 (pk [box D (.deferred (some [])), box L (.loop { rec .ready none with state := .busy }), r] :: Tx) (w1.putObj L (.loop { rec .ready none with state := .busy })) := Mem.pk hbusy
      refine wpIn_mono (hb (pk [box D (.deferred (some [])), box L (.loop { rec .ready none with state := .busy }), r]) _ hq2 a2 hI2) fun e a3 w3 q => ?_
      have fin : ∀ (jump : Option Code) (Z : List Reg), Mem w0 (pk [box D (.deferred (some [])), box L (.loop { rec .ready none with state := .busy }), r] :: Z) w3 →
          ∃ w4, (Instr.endRound L jump).run P w3 = .ok (.bool jump.isNone) w4 ∧ Mem w0 [pk ([box D (.deferred (some [])), box L (.loop (rec (if jump.isNone then .ready else .done) jump))] ++ Z), r] w4 := fun jump Z hZ => by
        have hZ2 : Mem w0 (box D (.deferred (some [])) :: box L (.loop { rec .ready none with state := .busy }) :: r :: Z) w3 := by simpa using hZ.unpk
        have hl3 : w3.heap[L]? = some (.loop { rec .ready none with state := .busy }) := hZ2.ok (box L (.loop { rec .ready none with state := .busy })) (by simp)
        have hend := run_endRound (P := P) jump hl3
        refine ⟨_, hend, ?_⟩
        have hZ3 := hZ2.turn (o' := .loop { { rec .ready none with state := .busy } with state := if jump.isNone then .ready else .done, pending := jump }) 1 rfl
        have er : ({ { rec .ready none with state := .busy } with state := if jump.isNone then .ready else .done, pending := jump } : Loop) = rec (if jump.isNone then .ready else .done) jump := by rw [hrec]
        rw [er] at hZ3 ⊢
        refine Mem.pk (hZ3.perm ?_)
        simp only [List.set_cons_succ, List.set_cons_zero, List.cons_append, List.nil_append]
        exact List.Perm.cons _ (List.Perm.cons _ (List.perm_append_comm (l₁ := [r])))
      cases e with
      | normal =>
        obtain ⟨_, _, h3⟩ := q
        obtain ⟨w4, h4, h5⟩ := fin none _ h3
        exact ⟨_, w4, h4, true, rfl, h5⟩
      | exit i => obtain ⟨_, _, hf⟩ := q; exact hf.elim
      | ret =>
        obtain ⟨_, _, _, ⟨_, h3⟩ | ⟨_, hno, _⟩⟩ := q
        · obtain ⟨w4, h4, h5⟩ := fin (some .ret) _ h3
          exact ⟨_, w4, h4, false, rfl, h5⟩
        · cases hno
      | goto l => exact q.elim
      | panic c => exact q.elim
      | outgrown => exact q.elim
  · -- behind the iterator
    rintro e W2 ⟨⟨v, rfl⟩, h1 | ⟨k, hk, h1⟩⟩
    · have h2 : Mem w0 (box D (.deferred (some [])) :: box L (.loop (rec .ready none)) :: Jl xs.length) W2 := by simpa using h1.unpk
      have hl : W2.heap[L]? = some (.loop (rec .ready none)) := h2.ok (box L (.loop (rec .ready none))) (by simp)
      have h3 := h2.turn (o' := .loop { rec .ready none with state := .exhausted }) 1 rfl
      refine ⟨none, W2.putObj L (.loop { rec .ready none with state := .exhausted }), by have := run_endLoop (P := P) hl (by rw [hrec]; simp); exact this.trans (by subst hrec; rfl), ?_⟩
      have h4 := hdone D (box L (.loop { rec .ready none with state := .exhausted })) _ h3 { a with defers := [mark D] ++ a.defers } ⟨by rw [ha.defers]; rfl, ha.size, ha.val⟩
      refine wp_mono (wp_of_cw rfl h4) fun e a' w' q => ?_
      cases e with
      | normal => obtain ⟨_, _, hf⟩ := q; exact hf.elim
      | exit i => obtain ⟨_, _, hf⟩ := q; exact hf.elim
      | ret =>
        obtain ⟨ρ', h5, h6, ⟨h7, h8⟩ | ⟨h7, _⟩⟩ := q
        · exact ⟨ρ', h5, h6, .inr ⟨rfl, rfl, D, h7, h8.1, h8.2⟩⟩
        · cases h7
      | goto l => exact q
      | panic c => exact q
      | outgrown => exact q
    · have h2 : Mem w0 (box D (.deferred (some [])) :: box L (.loop (rec .done (some .ret))) :: Jxl k) W2 := by simpa using h1.unpk
      have hl : W2.heap[L]? = some (.loop (rec .done (some .ret))) := h2.ok (box L (.loop (rec .done (some .ret)))) (by simp)
      have h3 := h2.turn (o' := .loop { rec .done (some .ret) with state := .exhausted }) 1 rfl
      have h4 := h3.turn (o' := .deferred none) 0 rfl
      refine ⟨some .ret, W2.putObj L (.loop { rec .done (some .ret) with state := .exhausted }), by have := run_endLoop (P := P) hl (by rw [hrec]; simp); exact this.trans (by subst hrec; rfl), ?_⟩
      refine wpIn_ret ?_
      exact ⟨ρ, ha.size, ha.val, .inr ⟨rfl, rfl, D, by rw [ha.defers]; rfl, h3.ok (box D (.deferred (some []))) (by simp), hstop D _ k hk _ h4⟩⟩
end
end Go.Cf
