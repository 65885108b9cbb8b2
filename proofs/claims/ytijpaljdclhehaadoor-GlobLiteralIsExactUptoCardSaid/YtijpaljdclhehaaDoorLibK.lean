/- Own walking frame, part K: drawn regions in steps ('epochs') between writes; callees that hand back or change memory that the caller knows; closures. Program independent. -/
import Derived.Test.YtijpaljdclhehaaDoorPlain
import Derived.Laws.Cover3
namespace Go.Cf
open Go.RowKit

/-! ### drawn regions: S k holds while k of the marked operations have come up -/
def nx (marks : List Nat) (k i : Nat) : Nat := bif marks.contains i then k + 1 else k
def wpE (P : Program) (ops : Array Oper) (Q : Exit → Act → World → Prop) (marks : List Nat) (S : Nat → World → Prop) : Nat → Nat → Array Bool → Act → World → Prop
  | 0, _, listed, a, w => Region.ready .any ops listed = [] ∧ Q .normal a w
  | fuel + 1, k, listed, a, w =>
    (Region.ready .any ops listed = [] → Q .normal a w) ∧
    ∀ i ∈ Region.ready .any ops listed, wpOp P ops Q i (fun a' w' => S (nx marks k i) w' ∧ wpE P ops Q marks S fuel (nx marks k i) (listed.setIfInBounds i true) a' w') a w
/-- L: what may be listed as long as i is not; none of the marked operations that are still to come is among it -/
def aheadB (ops : Array Oper) (marks : List Nat) (listed L : Array Bool) (i : Nat) : Bool :=
  !marks.contains i && listed.size == ops.size && L.size == ops.size && (List.range ops.size).all (fun j => !listed.getD j false || L.getD j false) &&
    (Region.ready .any ops L).all (· == i) && marks.all (fun m => !L.getD m false || listed.getD m false)
structure Ahead (ops : Array Oper) (marks : List Nat) (listed L : Array Bool) (i : Nat) : Prop where
  no : marks.contains i = false
  sz : listed.size = ops.size
  szL : L.size = ops.size
  le : ∀ j, listed.getD j false = true → L.getD j false = true
  stop : ∀ j ∈ Region.ready .any ops L, j = i
  mrk : ∀ m, marks.contains m = true → L.getD m false = true → listed.getD m false = true
theorem aheadB_spec {ops : Array Oper} {marks : List Nat} {listed L : Array Bool} {i : Nat} (h : aheadB ops marks listed L i = true) : Ahead ops marks listed L i := by
  simp only [aheadB, Bool.and_eq_true, Bool.not_eq_true', beq_iff_eq, List.all_eq_true, List.mem_range] at h
  obtain ⟨⟨⟨⟨⟨h1, h2⟩, h3⟩, h4⟩, h5⟩, h6⟩ := h
  refine ⟨h1, h2, h3, fun j hj => ?_, h5, fun m hm hL => ?_⟩
  · have hlt : j < listed.size := by
      rcases Nat.lt_or_ge j listed.size with h | h
      · exact h
      · simp [Array.getElem?_eq_none h] at hj
    have := h4 j (by omega)
    rw [hj] at this; simpa using this
  · have := h6 m (List.contains_iff_mem.1 hm)
    rw [hL] at this; simpa using this
theorem Ahead.unlisted {ops : Array Oper} {marks : List Nat} {listed L : Array Bool} {i j : Nat} (h : Ahead ops marks listed L i) (hj : j ∈ Region.ready .any ops listed) (hji : j ≠ i) : L.getD j false = true ∧ marks.contains j = false := by
  obtain ⟨hun, oj, hoj, hall⟩ := mem_ready.1 hj
  have hlt : j < ops.size := (Array.getElem?_eq_some_iff.1 hoj).1
  have hL : L.getD j false = true := by
    cases hc : L.getD j false with
    | true => rfl
    | false =>
      have hr : j ∈ Region.ready .any ops L := mem_ready.2 ⟨by
        have : j < L.size := by rw [h.szL]; exact hlt
        simp [this] at hc ⊢; exact hc, oj, hoj, fun e he hb => h.le _ (hall e he hb)⟩
      exact absurd (h.stop j hr) hji
  refine ⟨hL, ?_⟩
  cases hc : marks.contains j with
  | false => rfl
  | true =>
    have := h.mrk j hc hL
    have hs : j < listed.size := by rw [h.sz]; exact hlt
    simp [hs] at hun this
    rw [hun] at this; cases this
theorem getD_set_self {l : Array Bool} {i j : Nat} (h : (l.setIfInBounds i true).getD j false = true) : j = i ∨ l.getD j false = true := by
  by_cases e : j = i
  · exact .inl e
  · right; rwa [getD_set_ne false (Ne.symm e)] at h
theorem getD_mono {l : Array Bool} {i j : Nat} (h : l.getD j false = true) : (l.setIfInBounds i true).getD j false = true := getD_set_true h
theorem Ahead.next {ops : Array Oper} {marks : List Nat} {listed L : Array Bool} {i j : Nat} (h : Ahead ops marks listed L i) (hL : L.getD j false = true) : Ahead ops marks (listed.setIfInBounds j true) L i :=
  ⟨h.no, by simp [h.sz], h.szL, fun q hq => by
    rcases getD_set_self hq with rfl | hq
    · exact hL
    · exact h.le q hq, h.stop, fun m hm hl => getD_mono (h.mrk m hm hl)⟩

section
variable {P : Program} {ops : Array Oper} {Q : Exit → Act → World → Prop} {marks : List Nat} {S : Nat → World → Prop}
theorem wpAny_of_wpE : ∀ (fuel k : Nat) (listed : Array Bool) (a : Act) (w : World), wpE P ops Q marks S fuel k listed a w → wpAny P .any ops Q fuel listed a w
  | 0, _, _, _, _, h => h
  | fuel + 1, _, _, _, _, h => ⟨h.1, fun i hi => wpOp_mono (fun a' w' h' => wpAny_of_wpE fuel _ _ a' w' h'.2) (h.2 i hi)⟩

theorem wpE_first {i k : Nat} {L : Array Bool} {oi : Oper} {v : Value} (hi : ops[i]? = some oi) (hsel : ∀ (j : Nat) (o : Oper) cs b, ops[j]? = some o → o.op ≠ .select cs b)
    (hQ : ∀ c a w, Q (.panic c) (a.put oi.dst v) w → Q (.panic c) a w) : ∀ (fuel : Nat) (listed : Array Bool) (a : Act) (w : World),
      (∀ j oj, ops[j]? = some oj → j ≠ i → listed.getD j true = false → (∀ e ∈ oj.after, Region.binds .any e = true → e.on ≠ i) → oi.apart ops oj = true) →
      Ahead ops marks listed L i → i ∈ Region.ready .any ops listed → YieldsIf P ops (S k) oi v a → S k w →
      wpE P ops Q marks S fuel k (listed.setIfInBounds i true) (a.put oi.dst v) w → wpE P ops Q marks S (fuel + 1) k listed a w := by
  intro fuel
  induction fuel with
  | zero =>
    intro listed a w _ hm hr hy hS H
    refine ⟨fun h => (by rw [h] at hr; cases hr), fun j hj => ?_⟩
    by_cases hji : j = i
    · subst hji
      have e : nx marks k j = k := by unfold nx; rw [hm.no]; rfl
      rw [e]; exact hy.wpOp hi hS ⟨hS, H⟩
    · have h0 := ready_mono hj hji
      rw [H.1] at h0; cases h0
  | succ fuel ih =>
    intro listed a w hfree hm hr hy hS H
    refine ⟨fun h => (by rw [h] at hr; cases hr), fun j hj => ?_⟩
    by_cases hji : j = i
    · subst hji
      have e : nx marks k j = k := by unfold nx; rw [hm.no]; rfl
      rw [e]; exact hy.wpOp hi hS ⟨hS, H⟩
    · obtain ⟨hjun, oj, hoj, hall⟩ := mem_ready.1 hj
      have hnot : ∀ e ∈ oj.after, Region.binds .any e = true → e.on ≠ i := by
        intro e he hb heq
        have h1 := hall e he hb
        have h0 := (mem_ready.1 hr).1
        rw [heq] at h1
        rcases Nat.lt_or_ge i listed.size with h' | h'
        · simp [h'] at h0 h1; rw [h0] at h1; cases h1
        · simp [Array.getElem?_eq_none h'] at h1
      have hap := hfree j oj hoj hji hjun hnot
      obtain ⟨hLj, hmj⟩ := hm.unlisted hj hji
      have e : nx marks k j = k := by unfold nx; rw [hmj]; rfl
      have h1 := H.2 j (ready_mono hj hji)
      rw [e] at h1 ⊢
      have h2 := wpOp_putIf hoj hap (fun cs b => hsel i oi cs b hi) (fun cs b => hsel j oj cs b hoj) hQ hy h1
      refine wpOp_mono (fun a' w' h3 => ⟨h3.2.1, ih (listed.setIfInBounds j true) a' w' ?_ (hm.next hLj) (ready_mono hr (Ne.symm hji)) h3.1 h3.2.1 ?_⟩) h2
      · intro q oq hq hqi hun hno
        refine hfree q oq hq hqi ?_ hno
        by_cases hjq : j = q
        · subst hjq; exact hjun
        · rw [getD_set_ne true hjq] at hun; exact hun
      · rw [Array.setIfInBounds_comm _ _ hji]
        exact h3.2.2
theorem wpE_firstp {i : Nat} {B : World → Prop} {oi : Oper} {v : Value} (hB : ∀ k w, S k w → B w) (hi : ops[i]? = some oi) (hsel : ∀ (j : Nat) (o : Oper) cs b, ops[j]? = some o → o.op ≠ .select cs b)
    (hQ : ∀ c a w, Q (.panic c) (a.put oi.dst v) w → Q (.panic c) a w) (hm : marks.contains i = false) : ∀ (fuel k : Nat) (listed : Array Bool) (a : Act) (w : World),
      (∀ j oj, ops[j]? = some oj → j ≠ i → listed.getD j true = false → (∀ e ∈ oj.after, Region.binds .any e = true → e.on ≠ i) → oi.apart ops oj = true) →
      i ∈ Region.ready .any ops listed → YieldsIf P ops B oi v a → S k w →
      wpE P ops Q marks S fuel k (listed.setIfInBounds i true) (a.put oi.dst v) w → wpE P ops Q marks S (fuel + 1) k listed a w := by
  intro fuel
  induction fuel with
  | zero =>
    intro k listed a w _ hr hy hS H
    refine ⟨fun h => (by rw [h] at hr; cases hr), fun j hj => ?_⟩
    by_cases hji : j = i
    · subst hji
      have e : nx marks k j = k := by unfold nx; rw [hm]; rfl
      rw [e]; exact hy.wpOp hi (hB k w hS) ⟨hS, H⟩
    · have h0 := ready_mono hj hji
      rw [H.1] at h0; cases h0
  | succ fuel ih =>
    intro k listed a w hfree hr hy hS H
    refine ⟨fun h => (by rw [h] at hr; cases hr), fun j hj => ?_⟩
    by_cases hji : j = i
    · subst hji
      have e : nx marks k j = k := by unfold nx; rw [hm]; rfl
      rw [e]; exact hy.wpOp hi (hB k w hS) ⟨hS, H⟩
    · obtain ⟨hjun, oj, hoj, hall⟩ := mem_ready.1 hj
      have hnot : ∀ e ∈ oj.after, Region.binds .any e = true → e.on ≠ i := by
        intro e he hb heq
        have h1 := hall e he hb
        have h0 := (mem_ready.1 hr).1
        rw [heq] at h1
        rcases Nat.lt_or_ge i listed.size with h' | h'
        · simp [h'] at h0 h1; rw [h0] at h1; cases h1
        · simp [Array.getElem?_eq_none h'] at h1
      have hap := hfree j oj hoj hji hjun hnot
      have h1 := H.2 j (ready_mono hj hji)
      have h2 := wpOp_putIf hoj hap (fun cs b => hsel i oi cs b hi) (fun cs b => hsel j oj cs b hoj) hQ hy h1
      refine wpOp_mono (fun a' w' h3 => ⟨h3.2.1, ih _ (listed.setIfInBounds j true) a' w' ?_ (ready_mono hr (Ne.symm hji)) h3.1 h3.2.1 ?_⟩) h2
      · intro q oq hq hqi hun hno
        refine hfree q oq hq hqi ?_ hno
        by_cases hjq : j = q
        · subst hjq; exact hjun
        · rw [getD_set_ne true hjq] at hun; exact hun
      · rw [Array.setIfInBounds_comm _ _ hji]
        exact h3.2.2
end

def ghe (P : Program) (n : Fr) (w0 : World) (full : Array Oper) (marks : List Nat) (TS : List (List Reg)) (fuel k : Nat) (listed : Array Bool) (N : Env → World → Prop) (ρ : Env) (T : List Reg) : Prop :=
  ∀ w, Mem w0 T w → ∀ a, Is n ρ a → wpE P full (Out n N (fun _ _ _ => False) (fun _ _ => False)) marks (fun k => Mem w0 (TS.getD k [])) fuel k listed a w
/-- behind the one operation that came up -/
def Then (P : Program) (n : Fr) (w0 : World) (full : Array Oper) (marks : List Nat) (TS : List (List Reg)) (fuel k : Nat) (listed : Array Bool) (N : Env → World → Prop) (ρ : Env) (w : World) : Prop :=
  Mem w0 (TS.getD k []) w ∧ ∀ a, Is n ρ a → wpE P full (Out n N (fun _ _ _ => False) (fun _ _ => False)) marks (fun k => Mem w0 (TS.getD k [])) fuel k listed a w

section
variable {P : Program} {n : Fr} {w0 : World} {N : Env → World → Prop} {X : Nat → Env → World → Prop} {R : Env → World → Prop} {ρ : Env} {T : List Reg} {TS : List (List Reg)} {TK : List Reg}
  {full : Array Oper} {l : List Oper} {o : Oper} {v : Value} {d k fuel : Nat} {marks : List Nat} {listed listed' : Array Bool}

theorem greg_e0 {id : Nat} (marks : List Nat) (hm : P.follows .mixedOrders = true) (h : ghe P n w0 l.toArray marks [T] l.length 0 (Array.replicate l.length false) N ρ T) (hrd : n.rd = none := by rfl) : gwp P n w0 (.region id l.toArray true) N X R ρ T := by
  intro w hM a ha
  refine cw_of_wp hrd ?_
  refine wp_mono (wp_region_any hm ?_) out_more
  have := wpAny_of_wpE _ _ _ _ _ (h { w with drawn := w.drawn + 1 } (hM.drew rfl rfl rfl rfl) a ha)
  simpa using this
theorem greg_e1 {id : Nat} (marks : List Nat) (S : List (Nat × Reg)) (hm : P.follows .mixedOrders = true) (h : ghe P n w0 l.toArray marks [setL T S] l.length 0 (Array.replicate l.length false) N ρ T) (hrd : n.rd = none := by rfl) : gwp P n w0 (.region id l.toArray true) N X R ρ T := by
  intro w hM a ha
  refine cw_of_wp hrd ?_
  refine wp_mono (wp_region_any hm ?_) out_more
  have := wpAny_of_wpE _ _ _ _ _ (h { w with drawn := w.drawn + 1 } (hM.drew rfl rfl rfl rfl) a ha)
  simpa using this
theorem weak_take {T' : List Reg} (h : T.take T'.length = T') : Weak w0 T T' := fun _ hM => by rw [← h]; exact hM.sub (List.take_sublist _ _)
theorem weak_nil : Weak w0 T [] := fun _ hM => hM.sub (List.nil_sublist _)
theorem greg_e {id : Nat} (marks : List Nat) (TS : List (List Reg)) (hm : P.follows .mixedOrders = true) (h : ghe P n w0 l.toArray marks TS l.length 0 (Array.replicate l.length false) N ρ T) (hrd : n.rd = none := by rfl) : gwp P n w0 (.region id l.toArray true) N X R ρ T := by
  intro w hM a ha
  refine cw_of_wp hrd ?_
  refine wp_mono (wp_region_any hm ?_) out_more
  have := wpAny_of_wpE _ _ _ _ _ (h { w with drawn := w.drawn + 1 } (hM.drew rfl rfl rfl rfl) a ha)
  simpa using this
theorem ge_take (i : Nat) (hi : full[i]? = some o) (hs : Region.noSelect full = true) (hf : Region.free .any full listed i = true) (hr : (Region.ready .any full listed).contains i = true) (L : Array Bool) (hmw : aheadB full marks listed L i = true) (hk : TS.getD k [] = TK)
    (hy : Yield P w0 TK ρ o v) (hg : o.guard = none) (hd : o.dst = some d) (hlt : Nat.blt d n.n = true) (hW : Weak w0 T TK) (hl : listed.setIfInBounds i true = listed')
    (h : ghe P n w0 full marks TS fuel k listed' N (upd ρ d v) T) : ghe P n w0 full marks TS (fuel + 1) k listed N ρ T := by
  intro w hM a ha
  subst hk
  refine wpE_first (v := v) hi (Region.noSelect_spec hs) (fun c a w q => q) fuel listed a w (Region.free_spec hi hf) (aheadB_spec hmw) (by simpa using hr) (.inl ⟨by simp [Region.wanted, hg], fun w hS => by rw [ha.eval]; exact hy w hS⟩) (hW w hM) ?_
  rw [hd, hl]
  exact h w hM _ (ha.put hlt v)
/-- an operation that yields its value whatever the world -/
theorem ge_takep (i : Nat) (hi : full[i]? = some o) (hs : Region.noSelect full = true) (hf : Region.free .any full listed i = true) (hr : (Region.ready .any full listed).contains i = true) (hm : marks.contains i = false) (hk : TS.getD k [] = TK)
    (hy : Yield P w0 [] ρ o v) (hg : o.guard = none) (hd : o.dst = some d) (hlt : Nat.blt d n.n = true) (hW : Weak w0 T TK) (hl : listed.setIfInBounds i true = listed')
    (h : ghe P n w0 full marks TS fuel k listed' N (upd ρ d v) T) : ghe P n w0 full marks TS (fuel + 1) k listed N ρ T := by
  intro w hM a ha
  subst hk
  refine wpE_firstp (B := Mem w0 []) (v := v) (fun k w h => h.sub (List.nil_sublist _)) hi (Region.noSelect_spec hs) (fun c a w q => q) hm fuel k listed a w (Region.free_spec hi hf) (by simpa using hr) (.inl ⟨by simp [Region.wanted, hg], fun w hS => by rw [ha.eval]; exact hy w hS⟩) (hW w hM) ?_
  rw [hd, hl]
  exact h w hM _ (ha.put hlt v)
theorem ge_take_on (i : Nat) {j s : Nat} {b want : Bool} (hi : full[i]? = some o) (hs : Region.noSelect full = true) (hf : Region.free .any full listed i = true) (hr : (Region.ready .any full listed).contains i = true) (L : Array Bool) (hmw : aheadB full marks listed L i = true) (hk : TS.getD k [] = TK)
    (hgd : o.guard = some (j, want)) (hsl : (full[j]?).bind (·.dst) = some s) (hlts : Nat.blt s n.n = true) (hv : ρ s = .bool b) (hb : b = want)
    (hy : Yield P w0 TK ρ (bare o) v) (hd : o.dst = some d) (hlt : Nat.blt d n.n = true) (hW : Weak w0 T TK) (hl : listed.setIfInBounds i true = listed')
    (h : ghe P n w0 full marks TS fuel k listed' N (upd ρ d v) T) : ghe P n w0 full marks TS (fuel + 1) k listed N ρ T := by
  intro w hM a ha
  subst hk
  have hyd := yielded_of (full := full) ha hsl hlts hv
  refine wpE_first (v := v) hi (Region.noSelect_spec hs) (fun c a w q => q) fuel listed a w (Region.free_spec hi hf) (aheadB_spec hmw) (by simpa using hr) (.inl ⟨by unfold Region.wanted; rw [hgd]; simp [hyd, hb, boolOf], fun w hS => by rw [ha.eval]; exact hy w hS⟩) (hW w hM) ?_
  rw [hd, hl]
  exact h w hM _ (ha.put hlt v)
theorem ge_take_off (i : Nat) {j s : Nat} {u : Value} {want : Bool} (hi : full[i]? = some o) (hs : Region.noSelect full = true) (hf : Region.free .any full listed i = true) (hr : (Region.ready .any full listed).contains i = true) (L : Array Bool) (hmw : aheadB full marks listed L i = true) (hk : TS.getD k [] = TK)
    (hgd : o.guard = some (j, want)) (hsl : (full[j]?).bind (·.dst) = some s) (hlts : Nat.blt s n.n = true) (hv : ρ s = u) (hb : ¬ boolOf u = some want)
    (hd : o.dst = some d) (hlt : Nat.blt d n.n = true) (hW : Weak w0 T TK) (hl : listed.setIfInBounds i true = listed')
    (h : ghe P n w0 full marks TS fuel k listed' N (upd ρ d undef) T) : ghe P n w0 full marks TS (fuel + 1) k listed N ρ T := by
  intro w hM a ha
  subst hk
  have hyd := yielded_of (full := full) ha hsl hlts hv
  refine wpE_first (v := undef) hi (Region.noSelect_spec hs) (fun c a w q => q) fuel listed a w (Region.free_spec hi hf) (aheadB_spec hmw) (by simpa using hr) (.inr ⟨by unfold Region.wanted; rw [hgd]; simpa [hyd] using hb, rfl⟩) (hW w hM) ?_
  rw [hd, hl]
  exact h w hM _ (ha.put hlt undef)
theorem ge_dec (s : Nat) {b : Bool} (want : Bool) (_hv : ρ s = .bool b) (h1 : b = want → ghe P n w0 full marks TS fuel k listed N ρ T) (h2 : b = !want → ghe P n w0 full marks TS fuel k listed N ρ T) : ghe P n w0 full marks TS fuel k listed N ρ T := by
  by_cases hb : b = want
  · exact h1 hb
  · exact h2 (by cases b <;> cases want <;> simp_all)
theorem not_bool_f {want : Bool} : ¬ boolOf (.bool !want) = some want := by cases want <;> simp [boolOf]
theorem off_of {b want : Bool} (h : b = !want) : ¬ boolOf (.bool b) = some want := by subst h; exact not_bool_f
theorem off_undef {want : Bool} : ¬ boolOf undef = some want := by simp [boolOf, undef]
/-- what is to be shown of an operation that comes up -/
def GOp (P : Program) (n : Fr) (w0 : World) (full : Array Oper) (marks : List Nat) (TS : List (List Reg)) (fuel k : Nat) (listed : Array Bool) (N : Env → World → Prop) (ρ : Env) (T : List Reg) (i : Nat) : Prop :=
  ∀ w, Mem w0 T w → ∀ a, Is n ρ a → wpOp P full (Out n N (fun _ _ _ => False) (fun _ _ => False)) i (fun a' w' => Mem w0 (TS.getD (nx marks k i) []) w' ∧ wpE P full (Out n N (fun _ _ _ => False) (fun _ _ => False)) marks (fun k => Mem w0 (TS.getD k [])) fuel (nx marks k i) (listed.setIfInBounds i true) a' w') a w
/-- an operation that comes up, walked as in a region without draws -/
theorem ge_op (i : Nat) {k' : Nat} (hi : full[i]? = some o) (hk : nx marks k i = k') (hl : listed.setIfInBounds i true = listed')
    (h : gops P n w0 full [o] (Then P n w0 full marks TS fuel k' listed' N) ρ T) (hrd : n.rd = none := by rfl) : GOp P n w0 full marks TS fuel k listed N ρ T i := by
  intro w hM a ha
  rw [hk, hl]
  have h1 := h w hM a ha
  unfold lw at h1
  rw [hrd] at h1
  dsimp only at h1
  unfold wpList at h1
  unfold wpOp
  simp only [hi]
  have key : ∀ a' w', wpList P full (Out n (Then P n w0 full marks TS fuel k' listed' N) (fun _ _ _ => False) (fun _ _ => False)) [] a' w' →
      Mem w0 (TS.getD k' []) w' ∧ wpE P full (Out n N (fun _ _ _ => False) (fun _ _ => False)) marks (fun k => Mem w0 (TS.getD k [])) fuel k' listed' a' w' := by
    intro a' w' q
    obtain ⟨ρ', hI, h2, h3⟩ := q
    exact ⟨h2, h3 a' hI⟩
  have noOut : ¬ LetsOut (Out n (Then P n w0 full marks TS fuel k' listed' N) (fun _ _ _ => False) (fun _ _ => False)) := fun ⟨_, _, q⟩ => q
  split
  · rename_i hw
    rw [if_pos hw] at h1
    left
    rcases h1 with h1 | ⟨_, h1⟩
    · have h2 := Oper.wp_mono key h1
      clear h1
      unfold Oper.wp at h2 ⊢
      generalize (execOp a.eval o).run P w = r at h2 ⊢
      cases r with
      | ok nn w' =>
        cases nn <;> simp only [Oper.upon] at h2 ⊢ <;> first
          | exact h2
          | exact Calls.mono h2 (fun e w'' he => by cases e <;> first | exact he | exact he.elim | exact (noOut he).elim)
      | halt x w' => cases x <;> simp only [Oper.upon] at h2 ⊢ <;> first | exact h2 | exact h2.elim
    · exact (noOut h1).elim
  · rename_i hw
    rw [if_neg hw] at h1
    exact key _ _ h1
/-- the one operation that may come up -/
theorem ge_one (i : Nat) {k' : Nat} (hr : Region.ready .any full listed = [i]) (hi : full[i]? = some o) (hk : nx marks k i = k') (hl : listed.setIfInBounds i true = listed')
    (h : gops P n w0 full [o] (Then P n w0 full marks TS fuel k' listed' N) ρ T) (hrd : n.rd = none := by rfl) : ghe P n w0 full marks TS (fuel + 1) k listed N ρ T := by
  intro w hM a ha
  refine ⟨fun h0 => (by rw [hr] at h0; cases h0), fun j hj => ?_⟩
  rw [hr, List.mem_singleton] at hj
  subst hj
  exact ge_op j hi hk hl h hrd w hM a ha
/-- two operations may come up -/
theorem ge_two (i j : Nat) (hr : Region.ready .any full listed = [i, j]) (h1 : GOp P n w0 full marks TS fuel k listed N ρ T i) (h2 : GOp P n w0 full marks TS fuel k listed N ρ T j) : ghe P n w0 full marks TS (fuel + 1) k listed N ρ T := by
  intro w hM a ha
  refine ⟨fun h0 => (by rw [hr] at h0; cases h0), fun q hq => ?_⟩
  rw [hr] at hq
  rcases List.mem_cons.1 hq with rfl | hq
  · exact h1 w hM a ha
  · rw [List.mem_singleton.1 hq]; exact h2 w hM a ha
theorem ge_fin {listed : Array Bool} (hk : TS.getD k [] = TK) (hW : Weak w0 T TK) (h : ghe P n w0 full marks TS fuel k listed N ρ T) : Fin w0 (Then P n w0 full marks TS fuel k listed N) ρ T := fun w hM => by
  subst hk; exact ⟨hW w hM, fun a ha => h w hM a ha⟩
theorem ge_done (hr : Region.ready .any full listed = []) (h : Fin w0 N ρ T) : ghe P n w0 full marks TS fuel k listed N ρ T := fun w hM a ha => by
  cases fuel with
  | zero => exact ⟨hr, ρ, ha, h w hM⟩
  | succ m => exact ⟨fun _ => ⟨ρ, ha, h w hM⟩, by rw [hr]; simp⟩
/-- an operation that takes no value and whose guard is off -/
theorem gop_offs {rest : List Oper} {j s : Nat} {u : Value} {want : Bool} (hgd : o.guard = some (j, want)) (hs : (full[j]?).bind (·.dst) = some s) (hlt : Nat.blt s n.n = true) (hv : ρ s = u) (hb : ¬ boolOf u = some want)
    (hd : o.dst = none) (h : gops P n w0 full rest N ρ T) : gops P n w0 full (o :: rest) N ρ T := by
  intro w hM a ha
  have hy := yielded_of (full := full) ha hs hlt hv
  have hw : ¬ Region.wanted o (yielded full a.tmps) = true := by
    unfold Region.wanted; rw [hgd]; simpa [hy] using hb
  refine lw_off hw ?_
  rw [hd]
  exact h w hM _ ha
end

/-! ### regions: none, two in one -/
def emp : Reg := ⟨fun _ => False, fun _ => True, fun _ _ _ _ => trivial⟩
def both (r s : Reg) : Reg := ⟨fun b => r.has b ∨ s.has b, fun w => r.ok w ∧ s.ok w, fun w w' h hw => ⟨r.stays w w' (fun b hb => h b (.inl hb)) hw.1, s.stays w w' (fun b hb => h b (.inr hb)) hw.2⟩⟩
/-- the regions of a list, in one -/
def all_ : List Reg → Reg
  | [] => emp
  | r :: l => both r (all_ l)
theorem all_has : ∀ (l : List Reg) (b : Nat), (all_ l).has b ↔ ∃ r ∈ l, r.has b
  | [], b => by simp [all_, emp]
  | r :: l, b => by simp [all_, both, all_has l b]
theorem all_ok : ∀ (l : List Reg) (w : World), (all_ l).ok w ↔ ∀ r ∈ l, r.ok w
  | [], w => by simp [all_, emp]
  | r :: l, w => by simp [all_, both, all_ok l w]

section
variable {w0 w w' : World} {T : List Reg}
theorem Mem.emp (h : Mem w0 T w) : Mem w0 (T ++ [emp]) w := h.add (Below.refl _ _) trivial (fun _ hb => hb.elim)
/-- the last region goes into region i -/
theorem Mem.fold {i : Nat} {r s : Reg} (h : Mem w0 (T ++ [s]) w) (hi : T[i]? = some r) : Mem w0 (T.set i (both r s)) w := by
  have hT : Mem w0 T w := h.sub (List.sublist_append_left _ _)
  have hr : r ∈ T := List.mem_of_getElem? hi
  have hp := List.pairwise_append.1 h.disj
  refine ⟨h.low, ?_, ?_, ?_, ?_⟩
  · intro q hq
    rcases List.mem_or_eq_of_mem_set hq with hq | rfl
    · exact hT.ok q hq
    · exact ⟨hT.ok r hr, h.ok s (by simp)⟩
  · intro q hq b hb
    rcases List.mem_or_eq_of_mem_set hq with hq | rfl
    · exact hT.lt q hq b hb
    · rcases hb with hb | hb
      · exact hT.lt r hr b hb
      · exact h.lt s (by simp) b hb
  · intro q hq b hb
    rcases List.mem_or_eq_of_mem_set hq with hq | rfl
    · exact hT.ge q hq b hb
    · rcases hb with hb | hb
      · exact hT.ge r hr b hb
      · exact h.ge s (by simp) b hb
  · refine pairwise_set hT.disj hi (fun q hq hR b h1 h2 => ?_) (fun q hq hR b h1 h2 => ?_)
    · rcases h2 with h2 | h2
      · exact hR b h1 h2
      · exact hp.2.2 q hq s (by simp) b h1 h2
    · rcases h1 with h1 | h1
      · exact hR b h1 h2
      · exact hp.2.2 q hq s (by simp) b h2 h1
/-- what a callee knows at its end, behind what the caller knew -/
theorem Mem.join {T' : List Reg} (h : Mem w0 T w) (h' : Mem w T' w') : Mem w0 (T ++ T') w' := by
  have hc := h.call h'.low
  refine ⟨hc.low, ?_, ?_, ?_, ?_⟩
  · intro q hq
    rcases List.mem_append.1 hq with hq | hq
    · exact hc.ok q hq
    · exact h'.ok q hq
  · intro q hq b hb
    rcases List.mem_append.1 hq with hq | hq
    · exact hc.lt q hq b hb
    · exact h'.lt q hq b hb
  · intro q hq b hb
    rcases List.mem_append.1 hq with hq | hq
    · exact hc.ge q hq b hb
    · exact Nat.le_trans h.low.size (h'.ge q hq b hb)
  · rw [List.pairwise_append]
    refine ⟨h.disj, h'.disj, fun r hr s hs b h1 h2 => ?_⟩
    have := h.lt r hr b h1
    have := h'.ge s hs b h2
    omega
/-- the order of the regions does not matter -/
theorem Mem.perm {T' : List Reg} (h : Mem w0 T w) (hp : List.Perm T T') : Mem w0 T' w :=
  ⟨h.low, fun r hr => h.ok r (hp.mem_iff.2 hr), fun r hr => h.lt r (hp.mem_iff.2 hr), fun r hr => h.ge r (hp.mem_iff.2 hr), hp.pairwise h.disj (fun hxy b h1 h2 => hxy b h2 h1)⟩
/-- the regions behind the first ones, in one, and back -/
theorem Mem.pack {F E : List Reg} (h : Mem w0 (F ++ E) w) : Mem w0 (F ++ [all_ E]) w ∧ ∀ F' G w', Mem w0 (F' ++ all_ E :: G) w' → Mem w0 (F' ++ (E ++ G)) w' := by
  have hp := List.pairwise_append.1 h.disj
  refine ⟨⟨h.low, ?_, ?_, ?_, ?_⟩, fun F' G w' h' => ⟨h'.low, ?_, ?_, ?_, ?_⟩⟩
  · intro q hq
    rcases List.mem_append.1 hq with hq | hq
    · exact h.ok q (by simp [hq])
    · rw [List.mem_singleton.1 hq, all_ok]; exact fun r hr => h.ok r (by simp [hr])
  · intro q hq b hb
    rcases List.mem_append.1 hq with hq | hq
    · exact h.lt q (by simp [hq]) b hb
    · rw [List.mem_singleton.1 hq, all_has] at hb; obtain ⟨r, hr, hb⟩ := hb; exact h.lt r (by simp [hr]) b hb
  · intro q hq b hb
    rcases List.mem_append.1 hq with hq | hq
    · exact h.ge q (by simp [hq]) b hb
    · rw [List.mem_singleton.1 hq, all_has] at hb; obtain ⟨r, hr, hb⟩ := hb; exact h.ge r (by simp [hr]) b hb
  · rw [List.pairwise_append]
    refine ⟨hp.1, List.pairwise_singleton _ _, fun r hr s hs b h1 h2 => ?_⟩
    rw [List.mem_singleton.1 hs, all_has] at h2
    obtain ⟨q, hq, h2⟩ := h2
    exact hp.2.2 r hr q hq b h1 h2
  · intro q hq
    rcases List.mem_append.1 hq with hq | hq
    · exact h'.ok q (by simp [hq])
    · rcases List.mem_append.1 hq with hq | hq
      · exact (all_ok E w').1 (h'.ok _ (by simp)) q hq
      · exact h'.ok q (by simp [hq])
  · intro q hq b hb
    rcases List.mem_append.1 hq with hq | hq
    · exact h'.lt q (by simp [hq]) b hb
    · rcases List.mem_append.1 hq with hq | hq
      · exact h'.lt (all_ E) (by simp) b ((all_has E b).2 ⟨q, hq, hb⟩)
      · exact h'.lt q (by simp [hq]) b hb
  · intro q hq b hb
    rcases List.mem_append.1 hq with hq | hq
    · exact h'.ge q (by simp [hq]) b hb
    · rcases List.mem_append.1 hq with hq | hq
      · exact h'.ge (all_ E) (by simp) b ((all_has E b).2 ⟨q, hq, hb⟩)
      · exact h'.ge q (by simp [hq]) b hb
  · have hp' := List.pairwise_append.1 h'.disj
    have hp2 := List.pairwise_cons.1 hp'.2.1
    rw [List.pairwise_append, List.pairwise_append]
    refine ⟨hp'.1, ⟨hp.2.1, hp2.2, fun r hr s hs b h1 h2 => hp2.1 s hs b ((all_has E b).2 ⟨r, hr, h1⟩) h2⟩, fun r hr s hs b h1 h2 => ?_⟩
    rcases List.mem_append.1 hs with hs | hs
    · exact hp'.2.2 r hr (all_ E) (by simp) b h1 ((all_has E b).2 ⟨s, hs, h2⟩)
    · exact hp'.2.2 r hr s (by simp [hs]) b h1 h2
end

section
variable {P : Program} {n : Fr} {w0 : World} {N : Env → World → Prop} {X : Nat → Env → World → Prop} {R : Env → World → Prop} {ρ : Env} {T : List Reg} {full : Array Oper} {l rest : List Oper} {o : Oper} {d : Nat} {c : Code}
theorem g_emp (h : gwp P n w0 c N X R ρ (T ++ [emp])) : gwp P n w0 c N X R ρ T := fun w hM => h w hM.emp
theorem gops_emp (h : gops P n w0 full l N ρ (T ++ [emp])) : gops P n w0 full l N ρ T := fun w hM => h w hM.emp
/-- what is known, in another form -/
theorem g_mem (T' : List Reg) (hT : Weak w0 T T') (h : gwp P n w0 c N X R ρ T') : gwp P n w0 c N X R ρ T := fun w hM => h w (hT w hM)
theorem gops_mem (T' : List Reg) (hT : Weak w0 T T') (h : gops P n w0 full l N ρ T') : gops P n w0 full l N ρ T := fun w hM => h w (hT w hM)
theorem fin_mem (T' : List Reg) (hT : Weak w0 T T') (h : Fin w0 N ρ T') : Fin w0 N ρ T := fun w hM => h w (hT w hM)
theorem weak_fold {T0 : List Reg} {s : Reg} (i : Nat) {r : Reg} (hi : T0[i]? = some r) (hT : T = T0 ++ [s]) : Weak w0 T (T0.set i (both r s)) := fun _ hM => by subst hT; exact hM.fold hi
theorem weak_perm {T' : List Reg} (h : List.Perm T T') : Weak w0 T T' := fun _ hM => hM.perm h
theorem weak_sub {T' : List Reg} (h : List.Sublist T' T) : Weak w0 T T' := fun _ hM => hM.sub h
/-- a callee that hands back memory: what it knows at its end -/
theorem gop_got {f : FuncId} {args : Array Value} (Ψ : Value → List Reg → Prop) (he : ∀ w, (execOp (ev ρ) o).run P w = .ok (.enter f args) w)
    (hc : ∀ w, Mem w0 T w → Calls P f args w (fun e w' => ∃ v T', e = .returned v ∧ Ψ v T' ∧ Mem w T' w'))
    (hg : o.guard = none) (hd : o.dst = some d) (hlt : Nat.blt d n.n = true)
    (h : ∀ v T', Ψ v T' → gops P n w0 full rest N (upd ρ d v) (T ++ T')) : gops P n w0 full (o :: rest) N ρ T :=
  gop_call he (fun w hM => (hc w hM).mono fun _ w' ⟨v, T', he, hΨ, hM'⟩ => ⟨v, he, h v T' hΨ w' (hM.join hM')⟩) hg hd hlt
/-- a callee that changes memory that the caller knows -/
theorem gop_does {f : FuncId} {args : Array Value} (Ψ : Value → List Reg → Prop) (he : ∀ w, (execOp (ev ρ) o).run P w = .ok (.enter f args) w)
    (hc : ∀ w, Mem w0 T w → Calls P f args w (fun e w' => ∃ v T', e = .returned v ∧ Ψ v T' ∧ Mem w0 T' w'))
    (hg : o.guard = none) (hd : o.dst = some d) (hlt : Nat.blt d n.n = true)
    (h : ∀ v T', Ψ v T' → gops P n w0 full rest N (upd ρ d v) T') : gops P n w0 full (o :: rest) N ρ T :=
  gop_call he (fun w hM => (hc w hM).mono fun _ w' ⟨v, T', he, hΨ, hM'⟩ => ⟨v, he, h v T' hΨ w' hM'⟩) hg hd hlt
/-- a function's body, over what its caller knows -/
theorem gcallsT {f : FuncId} {fn : Func} {args : Array Value} {w : World} {R : Ending → World → Prop} {n : Nat}
    (hf : P.funcs[f]? = some fn) (hb : fn.body = some c) (hn : fn.ntmps = n) (hs : args.size ≤ n) (hM : Mem w0 T w)
    (h : gwp P (.plain n) w0 c (fun ρ w' => ∃ v, resOf P fn ρ w' v ∧ R (.returned v) w') (fun _ _ _ => False) (fun ρ w' => ∃ v, resOf P fn ρ w' v ∧ R (.returned v) w') (envOf args) T) :
    Calls P f args w R := by
  refine callsIn_wide.1 (callsIn_of_wp_marks (F := Fence.wide) (n := 0) hf hb trivial ?_)
  rw [hn]
  exact gleaves (h w hM _ (is_start args n hs))
theorem res0 {fn : Func} {w : World} (hr : fn.results = #[]) : resOf P fn ρ w (.tuple #[]) := fun tmps ht => by simp [results, hr]
end

/-! ### closures, nil slices -/
section
variable {P : Program} {w0 : World} {T : List Reg} {ρ : Env} {dst : Option Tmp} {ty : TypeId} {pos : String} {af : Array Edge} {gd : Option (Nat × Bool)} {x y : Operand} {t yt : TypeId}
theorem y_makeFunc {f : FuncId} {caps : Array Operand} {vs : List Value} (hc : caps.toList.map (ev ρ) = vs) : Yield P w0 T ρ ⟨dst, .makeFunc (.func f) #[] caps, ty, pos, af, gd⟩ (.func (.func f) #[] vs.toArray) := fun w _ => by
  have e : caps.map (ev ρ) = vs.toArray := by rw [← hc, ← Array.toList_map, Array.toArray_toList]
  simp [execOp, Instr.makeFunc, e]
theorem y_nilCheckf {f : FuncId} {a b : Array Value} (hx : ev ρ x = .func (.func f) a b) : Yield P w0 T ρ ⟨dst, .nilCheck x, ty, pos, af, gd⟩ (.func (.func f) a b) := fun w _ => by simp [execOp, hx]
/-- a call of a function value -/
theorem e_callv {f : FuncId} {fn : Func} {args : Array Operand} {ats : Array TypeId} {vs cs : List Value} (hv : ev ρ x = .func (.func f) #[] cs.toArray) (hf : P.funcs[f]? = some fn) (hb : fn.body.isSome = true) (hnm : (fn.name == "runtime.NumGoroutine") = false) (ha : args.toList.map (ev ρ) = vs) (w : World) :
    (execOp (ev ρ) ⟨dst, .call { callee := .value x, args := args, argTypes := ats }, ty, pos, af, gd⟩).run P w = .ok (.enter f (vs ++ cs).toArray) w := by
  have e : args.map (ev ρ) = vs.toArray := by rw [← ha, ← Array.toList_map, Array.toArray_toList]
  obtain ⟨c, hc⟩ := Option.isSome_iff_exists.1 hb
  have hnm' : ¬ fn.name = "runtime.NumGoroutine" := by simpa using hnm
  simp [execOp, resolve, Deferred.ofValue, hv, invoke, callFunc, e, hf, hc, hnm']
theorem y_eqlnil {e : TypeId} {A : Option Addr} {l c : Nat} (ht : P.underlying t = some (.slice e)) (hx : ev ρ x = .slice A l c) (hy : ev ρ y = .slice none 0 0) : Yield P w0 T ρ ⟨dst, .binOp .eql t x y yt, ty, pos, af, gd⟩ (.bool A.isNone) := fun w _ => by
  simp only [execOp, go_sem, hx, hy]; simp [binOp, run_equal_slice_nil w t e A l c ht]
theorem y_neqnil {e : TypeId} {A : Option Addr} {l c : Nat} (ht : P.underlying t = some (.slice e)) (hx : ev ρ x = .slice A l c) (hy : ev ρ y = .slice none 0 0) : Yield P w0 T ρ ⟨dst, .binOp .neq t x y yt, ty, pos, af, gd⟩ (.bool (!A.isNone)) := fun w _ => by
  simp only [execOp, go_sem, hx, hy]; simp [binOp, run_equal_slice_nil w t e A l c ht]
end
end Go.Cf
