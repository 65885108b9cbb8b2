/- Own walking frame, part H: loops with fixed and varying slots, results. Program independent. -/
import Derived.Test.YtijpaljdclhehaaDoorLibG
namespace Go.Cf
open Go.RowKit

def setL (T : List Reg) : List (Nat × Reg) → List Reg
  | [] => T
  | (i, r) :: l => (setL T l).set i r

section
variable {P : Program} {n : Fr} {w0 : World} {N : Env → World → Prop} {X : Nat → Env → World → Prop} {R : Env → World → Prop} {ρ : Env} {T : List Reg}

theorem agree_upd2 (σ : Env) (Lf Lv : List (Nat × Value)) (h1 : agree σ Lf) (h2 : agree σ Lv) : updL (updL σ Lf) Lv = σ := by
  rw [updL_self σ Lf h1, updL_self σ Lv h2]
/-- only the slots of Lv and Lf matter -/
theorem gfrom2 {c : Code} (Lv Lf : List (Nat × Value)) (hv : agree ρ Lv) (hf : agree ρ Lf) (h : ∀ σ, gwp P n w0 c N X R (updL (updL σ Lf) Lv) T) : gwp P n w0 c N X R ρ T := by
  have := h ρ
  rwa [agree_upd2 ρ Lf Lv hf hv] at this
theorem gT {c : Code} (T' : List Reg) (hT : T = T') (h : gwp P n w0 c N X R ρ T') : gwp P n w0 c N X R ρ T := by subst hT; exact h
/-- a loop: the slots of Lf stay, those of L change; of the regions those that S names change -/
theorem gloop2 {c : Code} {σ0 : Env} {Lf Lv : List (Nat × Value)} {G : Type} (φ : G → Prop) (μ : G → Nat) (L : G → List (Nat × Value)) (S : G → List (Nat × Reg)) (g0 : G) (h0 : φ g0)
    (hL : agree (updL (updL σ0 Lf) Lv) (L g0)) (hF : agree (updL (updL σ0 Lf) Lv) Lf) (hT : setL T (S g0) = T)
    (round : ∀ g, φ g → ∀ σ, gwp P n w0 c (fun ρ' w' => ∃ g', μ g' < μ g ∧ φ g' ∧ agree ρ' (L g') ∧ agree ρ' Lf ∧ Mem w0 (setL T (S g')) w') X R (updL (updL σ Lf) (L g)) (setL T (S g))) :
    gwp P n w0 (.loop c) N X R (updL (updL σ0 Lf) Lv) T := by
  intro w hM
  refine cwp_loop (fun m ρ w => ∃ g, μ g = m ∧ φ g ∧ agree ρ (L g) ∧ agree ρ Lf ∧ Mem w0 (setL T (S g)) w) (μ g0) ⟨g0, rfl, h0, hL, hF, by rw [hT]; exact hM⟩ ?_
  rintro m ρ1 w1 ⟨g, rfl, hφ, hL1, hF1, hM1⟩
  have h := round g hφ ρ1 w1 hM1
  rw [agree_upd2 ρ1 Lf _ hF1 hL1] at h
  intro a ha
  refine cw_mono (h a ha) fun e a' w' q => ?_
  cases e with
  | normal =>
    obtain ⟨ρ', hI, g', hlt, hφ', hL', hF', hM'⟩ := q
    exact ⟨ρ', hI, μ g', hlt, g', rfl, hφ', hL', hF', hM'⟩
  | exit i => exact q
  | ret => exact q
  | goto l => exact q
  | panic c => exact q
  | outgrown => exact q
theorem gnext2 {T0 : List Reg} {Lf : List (Nat × Value)} {G : Type} {φ : G → Prop} {μ : G → Nat} {L : G → List (Nat × Value)} {S : G → List (Nat × Reg)} {m : Nat} (g : G) (hlt : μ g < m) (hφ : φ g) (hL : agree ρ (L g)) (hF : agree ρ Lf)
    (hT : ∃ extra, T = setL T0 (S g) ++ extra) :
    Fin w0 (fun ρ' w' => ∃ g', μ g' < m ∧ φ g' ∧ agree ρ' (L g') ∧ agree ρ' Lf ∧ Mem w0 (setL T0 (S g')) w') ρ T := fun _ hM => by
  obtain ⟨extra, hT⟩ := hT
  rw [hT] at hM
  exact ⟨g, hlt, hφ, hL, hF, hM.sub (List.sublist_append_left _ _)⟩
/-- a cut: behind a piece of code; the slots of Lf stay, those of L are as g says -/
theorem gcut2 {c : Code} {Lf : List (Nat × Value)} {G : Type} (φ : G → Prop) (L : G → List (Nat × Value)) (T' : G → List Reg) (_hf0 : agree ρ Lf)
    (h1 : gwp P n w0 c (fun ρ' w' => ∃ g, φ g ∧ agree ρ' (L g) ∧ agree ρ' Lf ∧ Mem w0 (T' g) w') X R ρ T)
    (h2 : ∀ g, φ g → ∀ σ, Fin w0 N (updL (updL σ Lf) (L g)) (T' g)) : gwp P n w0 c N X R ρ T := by
  intro w hM a ha
  refine cw_mono (h1 w hM a ha) fun e a' w' q => ?_
  cases e with
  | normal =>
    obtain ⟨ρ', hI, g, hφ, hL, hF, hM'⟩ := q
    exact ⟨ρ', hI, by have := h2 g hφ ρ' w' hM'; rwa [agree_upd2 ρ' _ _ hF hL] at this⟩
  | exit i => exact q
  | ret => exact q
  | goto l => exact q
  | panic c => exact q
  | outgrown => exact q
theorem gcut2_end {Lf : List (Nat × Value)} {G : Type} {φ : G → Prop} {L : G → List (Nat × Value)} {T' : G → List Reg} (g : G) (hφ : φ g) (hL : agree ρ (L g)) (hF : agree ρ Lf) (hT : ∃ extra, T = T' g ++ extra) :
    Fin w0 (fun ρ' w' => ∃ g, φ g ∧ agree ρ' (L g) ∧ agree ρ' Lf ∧ Mem w0 (T' g) w') ρ T := fun _ hM => by
  obtain ⟨extra, hT⟩ := hT
  rw [hT] at hM
  exact ⟨g, hφ, hL, hF, hM.sub (List.sublist_append_left _ _)⟩

/-! results -/
def ResV (P : Program) (ρ : Env) (w : World) : ResultVar → Value → Prop
  | .tmp t, v => ρ t = v
  | .cell a t, v => ∃ p, ρ a = .pointer (some p) ∧ (loadVar t p).run P w = .ok v w
theorem resV_run {w : World} {r : ResultVar} {v : Value} (h : ResV P ρ w r v) (tmps : Array Value) (ht : ∀ t, tmps.getD t undef = ρ t) :
    ((match r with | .tmp t => pure (tmps.getD t undef) | .cell a t => do loadVar t (← asAddr (tmps.getD a undef)) : Sem Value)).run P w = .ok v w := by
  cases r with
  | tmp t => have h' : ρ t = v := h; simp [ht, h']
  | cell a t => obtain ⟨p, h1, h2⟩ := h; simp [ht, h1, asAddr, h2]
theorem res1 {fn : Func} {w : World} {r : ResultVar} {v : Value} (hr : fn.results = #[r]) (h : ResV P ρ w r v) : resOf P fn ρ w v := fun tmps ht => by
  have h1 := resV_run h tmps ht
  cases r <;> simp_all [results]
theorem res2 {fn : Func} {w : World} {r s : ResultVar} {v u : Value} (hr : fn.results = #[r, s]) (h : ResV P ρ w r v) (h' : ResV P ρ w s u) : resOf P fn ρ w (.tuple #[v, u]) := fun tmps ht => by
  cases r <;> cases s <;> (try obtain ⟨p, hp, hl⟩ := h) <;> (try obtain ⟨p', hp', hl'⟩ := h') <;> simp_all [results, asAddr]
theorem res3 {fn : Func} {w : World} {r s q : ResultVar} {v u z : Value} (hr : fn.results = #[r, s, q]) (h : ResV P ρ w r v) (h' : ResV P ρ w s u) (h'' : ResV P ρ w q z) : resOf P fn ρ w (.tuple #[v, u, z]) := fun tmps ht => by
  cases r <;> cases s <;> cases q <;> (try obtain ⟨p, hp, hl⟩ := h) <;> (try obtain ⟨p', hp', hl'⟩ := h') <;> (try obtain ⟨p'', hp'', hl''⟩ := h'') <;> simp_all [results, asAddr]
theorem rt {w : World} {t : Nat} {v : Value} (h : ρ t = v) : ResV P ρ w (.tmp t) v := h
theorem rc {w : World} (i : Nat) {a b : Nat} {t e : TypeId} {cs : List Value} (hM : Mem w0 T w) (hp : ρ a = .pointer (some ⟨b, 0, none⟩)) (hi : T[i]? = some (box b (.cells cs.toArray e))) {m : Nat} (ht : ∀ w, (isAgg t).run P w = .ok true w) (hs : ∀ w, (sizeOf t).run P w = .ok m w) (hl : cs.length = m) :
    ResV P ρ w (.cell a t) (.agg cs.toArray) := by
  subst hl
  refine ⟨_, hp, ?_⟩
  have h := run_loadCells_list (P := P) w ⟨b, 0, none⟩ cs (fun j u hu => cells_box i hi j u hu w hM)
  simp [loadVar, ht, hs, h]
theorem rc1 {w : World} (i : Nat) {a b : Nat} {t e : TypeId} {v : Value} (hM : Mem w0 T w) (hp : ρ a = .pointer (some ⟨b, 0, none⟩)) (hi : T[i]? = some (box b (.cells #[v] e))) (ht : ∀ w, (isAgg t).run P w = .ok false w) :
    ResV P ρ w (.cell a t) v := by
  refine ⟨_, hp, ?_⟩
  have h := cell_box (w0 := w0) i (off := 0) hi rfl w hM
  simp [loadVar, ht, h]
end

section
variable {P : Program} {n : Fr} {w0 : World} {N : Env → World → Prop} {ρ : Env} {T : List Reg} {full : Array Oper} {rest : List Oper} {o : Oper} {d : Nat}
/-- a guard that is not yet decided -/
theorem gop_if {j s : Nat} {b want : Bool} (hgd : o.guard = some (j, want)) (hs : (full[j]?).bind (·.dst) = some s) (hlt : Nat.blt s n.n = true) (hv : ρ s = .bool b)
    (hd : o.dst = some d) (hlt' : Nat.blt d n.n = true) (h1 : b = want → gops P n w0 full (bare o :: rest) N ρ T) (h2 : b = !want → gops P n w0 full rest N (upd ρ d undef) T) : gops P n w0 full (o :: rest) N ρ T := by
  by_cases hb : b = want
  · exact gop_on hgd hs hlt hv hb (h1 hb)
  · have hb' : b = !want := by cases b <;> cases want <;> simp_all
    exact gop_off hgd hs hlt hv hb' hd hlt' (h2 hb')
theorem gq_if {Q : Env → Prop} {j s : Nat} {b want : Bool} (hgd : o.guard = some (j, want)) (hs : (full[j]?).bind (·.dst) = some s) (hlt : Nat.blt s n.n = true) (hv : ρ s = .bool b)
    (hd : o.dst = some d) (hlt' : Nat.blt d n.n = true) (h1 : b = want → gqs P n w0 full (bare o :: rest) Q ρ T) (h2 : b = !want → gqs P n w0 full rest Q (upd ρ d undef) T) : gqs P n w0 full (o :: rest) Q ρ T := by
  by_cases hb : b = want
  · exact gq_on hgd hs hlt hv hb (h1 hb)
  · have hb' : b = !want := by cases b <;> cases want <;> simp_all
    exact gq_off hgd hs hlt hv hb' hd hlt' (h2 hb')
end
end Go.Cf
