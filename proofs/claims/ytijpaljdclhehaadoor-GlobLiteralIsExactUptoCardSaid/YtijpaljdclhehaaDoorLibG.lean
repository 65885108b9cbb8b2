/- Own walking frame, part G: regions that draw their order and write; literals of slices; cuts of slices. Program independent. -/
import Derived.Test.YtijpaljdclhehaaDoorLibF
namespace Go.Cf
open Go.RowKit

def Weak (w0 : World) (T TS : List Reg) : Prop := ∀ w, Mem w0 T w → Mem w0 TS w
theorem weak_refl {w0 : World} {T : List Reg} : Weak w0 T T := fun _ h => h
theorem weak_room {w0 : World} {T : List Reg} (i : Nat) {b m : Nat} {e : TypeId} {cs : Array Value} (hi : T[i]? = some (box b (.cells cs e))) (hm : cs.size = m) : Weak w0 T (T.set i (room b e m)) := fun w hM => by
  have hb : w.heap[b]? = some (.cells cs e (0, 0)) := hM.ok _ (List.mem_of_getElem? hi)
  exact hM.upd hi (Chg.of_below (Below.refl _ _)) ⟨cs, hm, hb⟩ (fun k hk => ⟨.inl hk, hM.lt _ (List.mem_of_getElem? hi) k hk⟩)
theorem weak_trans {w0 : World} {A B C : List Reg} (h : Weak w0 A B) (k : Weak w0 B C) : Weak w0 A C := fun w hM => k w (h w hM)
theorem weak_pre {w0 : World} {T T' extra : List Reg} (h : T = T' ++ extra) : Weak w0 T T' := fun _ hM => by subst h; exact hM.sub (List.sublist_append_left _ _)

def ghd (P : Program) (n : Fr) (w0 : World) (full : Array Oper) (TS : List Reg) (k : Nat) (listed : Array Bool) (N : Env → World → Prop) (ρ : Env) (T : List Reg) : Prop :=
  ∀ w, Mem w0 T w → ∀ a, Is n ρ a → wpAnyH P .any full (Out n N (fun _ _ _ => False) (fun _ _ => False)) (Mem w0 TS) k listed a w

section
variable {P : Program} {n : Fr} {w0 : World} {N : Env → World → Prop} {X : Nat → Env → World → Prop} {R : Env → World → Prop} {ρ : Env} {T TS : List Reg}
  {full : Array Oper} {l : List Oper} {o : Oper} {v : Value} {d k : Nat} {listed listed' : Array Bool}

theorem greg_h {id : Nat} (TS : List Reg) (hm : P.follows .mixedOrders = true) (h : ghd P n w0 l.toArray TS l.length (Array.replicate l.length false) N ρ T) (hrd : n.rd = none := by rfl) : gwp P n w0 (.region id l.toArray true) N X R ρ T := by
  intro w hM a ha
  refine cw_of_wp hrd ?_
  refine wp_mono (wp_region_held (S := Mem w0 TS) hm ?_) out_more
  have := h { w with drawn := w.drawn + 1 } (hM.drew rfl rfl rfl rfl) a ha
  simpa using this
/-- an operation that yields its value in every world that TS speaks of may be taken first -/
theorem ght (i : Nat) (hi : full[i]? = some o) (hs : Region.noSelect full = true) (hf : Region.free .any full listed i = true) (hr : (Region.ready .any full listed).contains i = true)
    (hy : Yield P w0 TS ρ o v) (hg : o.guard = none) (hd : o.dst = some d) (hlt : Nat.blt d n.n = true) (hW : Weak w0 T TS) (hl : listed.setIfInBounds i true = listed')
    (h : ghd P n w0 full TS k listed' N (upd ρ d v) T) : ghd P n w0 full TS (k + 1) listed N ρ T := by
  intro w hM a ha
  refine wpAnyH_take (v := v) hi hs hf hr (fun c a w q => q) (.inl ⟨by simp [Region.wanted, hg], fun w hS => by rw [ha.eval]; exact hy w hS⟩) (hW w hM) ?_
  rw [hd, hl]
  exact h w hM _ (ha.put hlt v)
theorem ghx (i : Nat) (hr : Region.ready .any full listed = [i]) (_hi : full[i]? = some o)
    (hx : ∀ w, Mem w0 T w → ∀ a, Is n ρ a → wpOp P full (Out n N (fun _ _ _ => False) (fun _ _ => False)) i (fun a' w' => Mem w0 TS w' ∧ wpAnyH P .any full (Out n N (fun _ _ _ => False) (fun _ _ => False)) (Mem w0 TS) k (listed.setIfInBounds i true) a' w') a w) :
    ghd P n w0 full TS (k + 1) listed N ρ T := fun w hM a ha => wpAnyH_all hr (by simp) (fun j hj => by
      rw [List.mem_singleton.1 hj]; exact hx w hM a ha)
/-- the one operation that may come up: it changes the world and yields nothing -/
theorem ghs (i : Nat) (hr : Region.ready .any full listed = [i]) (hi : full[i]? = some o) (hg : o.guard = none) (hd : o.dst = none) (hl : listed.setIfInBounds i true = listed') {T' : List Reg}
    (hrun : ∀ w, Mem w0 T w → ∃ w', (execOp (ev ρ) o).run P w = .ok .skip w' ∧ Mem w0 T' w') (hW : Weak w0 T' TS) (h : ghd P n w0 full TS k listed' N ρ T') : ghd P n w0 full TS (k + 1) listed N ρ T :=
  ghx i hr hi fun w hM a ha => by
    obtain ⟨w', hr, hM'⟩ := hrun w hM
    unfold wpOp
    simp only [hi, Region.wanted, hg, if_true]
    left
    unfold Oper.wp
    rw [ha.eval, hr, Oper.upon_skip, hd, hl]
    exact ⟨hW w' hM', h w' hM' a ha⟩
/-- the one operation that may come up: it changes the world and yields a value -/
theorem ghv (i : Nat) (Φ : Value → List Reg → Prop) (hr : Region.ready .any full listed = [i]) (hi : full[i]? = some o) (hg : o.guard = none) (hd : o.dst = some d) (hlt : Nat.blt d n.n = true) (hl : listed.setIfInBounds i true = listed')
    (hrun : ∀ w, Mem w0 T w → ∃ v T' w', (execOp (ev ρ) o).run P w = .ok (.value v) w' ∧ Φ v T' ∧ Mem w0 T' w') (h : ∀ v T', Φ v T' → Weak w0 T' TS ∧ ghd P n w0 full TS k listed' N (upd ρ d v) T') : ghd P n w0 full TS (k + 1) listed N ρ T :=
  ghx i hr hi fun w hM a ha => by
    obtain ⟨v, T', w', hr, hΦ, hM'⟩ := hrun w hM
    unfold wpOp
    simp only [hi, Region.wanted, hg, if_true]
    left
    unfold Oper.wp
    rw [ha.eval, hr, Oper.upon_value, hd, hl]
    exact ⟨(h v T' hΦ).1 w' hM', (h v T' hΦ).2 w' hM' _ (ha.put hlt v)⟩
/-- the one operation that may come up: a call -/
theorem ghc (i : Nat) (Φ : Value → List Reg → Prop) {f : FuncId} {args : Array Value} (hr : Region.ready .any full listed = [i]) (hi : full[i]? = some o) (hg : o.guard = none) (hd : o.dst = some d) (hlt : Nat.blt d n.n = true) (hl : listed.setIfInBounds i true = listed')
    (he : ∀ w, (execOp (ev ρ) o).run P w = .ok (.enter f args) w)
    (hc : ∀ w, Mem w0 T w → Calls P f args w (fun e w' => ∃ v T', e = .returned v ∧ Φ v T' ∧ Mem w0 T' w')) (h : ∀ v T', Φ v T' → Weak w0 T' TS ∧ ghd P n w0 full TS k listed' N (upd ρ d v) T') : ghd P n w0 full TS (k + 1) listed N ρ T :=
  ghx i hr hi fun w hM a ha => by
    unfold wpOp
    simp only [hi, Region.wanted, hg, if_true]
    left
    unfold Oper.wp
    rw [ha.eval, he w, Oper.upon_enter]
    refine (hc w hM).mono ?_
    rintro e w' ⟨v, T', rfl, hΦ, hM'⟩
    show _ ∧ _
    rw [hd, hl]
    exact ⟨(h v T' hΦ).1 w' hM', (h v T' hΦ).2 w' hM' _ (ha.put hlt v)⟩
theorem ghd_done (hr : Region.ready .any full listed = []) (h : Fin w0 N ρ T) : ghd P n w0 full TS k listed N ρ T := fun w hM _ ha => wpAnyH_done hr ⟨ρ, ha, h w hM⟩ k

variable {ty t : TypeId} {pos : String} {af : Array Edge} {gd : Option (Nat × Bool)} {x y : Operand} {dst : Option Tmp}
/-- a store into a block of which the size is known -/
theorem run_store_box (i : Nat) {b off m : Nat} {cs cs' : Array Value} {e : TypeId} {us : List Value} {T' : List Reg} (hx : ev ρ x = .pointer (some ⟨b, off, none⟩)) (hy : ev ρ y = v) (hs : ∀ w, (sizeOf t).run P w = .ok m w) (hv : v.cells.toList = us)
    (hm : us.length = m) (h1 : us.all Value.oneCell' = true) (hi : T[i]? = some (box b (.cells cs e))) (hl : off + m ≤ cs.size) (hcs : putAt cs off us = cs') (hT : T.set i (box b (.cells cs' e)) = T') :
    ∀ w, Mem w0 T w → ∃ w', (execOp (ev ρ) ⟨dst, .store t x y, ty, pos, af, gd⟩).run P w = .ok .skip w' ∧ Mem w0 T' w' := fun w hM => by
  obtain ⟨w', hr, hM'⟩ := mem_store (P := P) (off := off) us w hM hi (by simpa [List.all_eq_true] using h1) (by omega)
  refine ⟨w', ?_, by subst hcs; subst hT; exact hM'⟩
  have hsz : v.cells.size = m := by rw [← Array.length_toList, hv, hm]
  simp [execOp, hx, hy, Instr.storeAt, Instr.sureAddr, storeVar, hs, hsz, hv, hr]
theorem y_nilCheck {p : Addr} (hx : ev ρ x = .pointer (some p)) : Yield P w0 T ρ ⟨dst, .nilCheck x, ty, pos, af, gd⟩ (.pointer (some p)) := fun w _ => by simp [execOp, hx]

/-- a literal of a slice: a new block, known whole -/
theorem run_bslice {e : TypeId} {len s : Nat} {parts : Array (Nat × Operand)} {vs : List (Nat × Value)} {cells : Array Value} {z : Value} (ht : P.underlying t = some (.slice e)) (hs : ∀ w, (sizeOf e).run P w = .ok s w)
    (hz : ∀ w, (zeroValue e).run P w = .ok z w) (hp : parts.toList.map (fun q => (q.1, ev ρ q.2)) = vs) (hsm : len * s ≤ 2 ^ 24) (hpos : len * s ≠ 0)
    (hfill : Instr.fill (fun i => some (i * s, s)) ((Array.range (len * s)).map (z.cells[· % z.cells.size]!)) vs = some cells) (w : World) :
    (execOp (ev ρ) ⟨dst, .buildSlice t len parts, ty, pos, af, gd⟩).run P w = .ok (.value (.slice (some ⟨w.heap.size, 0, none⟩) len len)) (w.alloc (.cells cells e)) := by
  have e1 : (parts.map fun (x : Nat × Operand) => match x with | (i, x) => (i, ev ρ x)).toList = vs := by rw [Array.toList_map, ← hp]
  have h24 : ¬ (2 : Nat) ^ 24 < len * s := by omega
  simp only [execOp, Instr.buildSlice, Sem.run_bind, run_underlying ht, Result.andThen_ok, hs]
  simp only [gt_iff_lt, if_neg h24, if_neg hpos, Sem.run_bind, hz, Result.andThen_ok, Sem.run_pure, e1, hfill, newRow, run_newObj]
  rfl
theorem gop_bslice {rest : List Oper} {e : TypeId} {len s : Nat} {parts : Array (Nat × Operand)} {vs : List (Nat × Value)} {cells : Array Value} {z : Value} (ht : P.underlying t = some (.slice e)) (hs : ∀ w, (sizeOf e).run P w = .ok s w)
    (hz : ∀ w, (zeroValue e).run P w = .ok z w) (hp : parts.toList.map (fun q => (q.1, ev ρ q.2)) = vs) (hsm : len * s ≤ 2 ^ 24) (hpos : len * s ≠ 0)
    (hfill : Instr.fill (fun i => some (i * s, s)) ((Array.range (len * s)).map (z.cells[· % z.cells.size]!)) vs = some cells) (hlt : Nat.blt d n.n = true)
    (h : ∀ b, w0.heap.size ≤ b → gops P n w0 full rest N (upd ρ d (.slice (some ⟨b, 0, none⟩) len len)) (T ++ [box b (.cells cells e)])) :
    gops P n w0 full (⟨some d, .buildSlice t len parts, ty, pos, af, none⟩ :: rest) N ρ T :=
  gop_w (fun w hM => ⟨_, _, run_bslice ht hs hz hp hsm hpos hfill w, h w.heap.size hM.low.size _ (mem_box w hM cells e)⟩) rfl rfl hlt

/-- x[lo:hi] of a slice -/
theorem y_slice {e : TypeId} {s : Nat} {A : Option Addr} {len cap : Nat} {lo hi : Int} {kl kh : IntKind} {y z : Operand} (ht : P.underlying t = some (.slice e)) (hs : ∀ w, (sizeOf e).run P w = .ok s w)
    (hx : ev ρ x = .slice A len cap) (hy : ev ρ y = .int kl lo) (hz : ev ρ z = .int kh hi) (h0 : 0 ≤ lo) (h1 : lo ≤ hi) (h2 : hi ≤ cap) :
    Yield P w0 T ρ ⟨dst, .slice t x (some y) (some z) none, ty, pos, af, gd⟩ (sliced A lo.toNat hi.toNat cap s) := fun w _ => by
  have he : P.elem t = e := by simp [Program.elem, ht]
  have h := run_slice_lh (P := P) w t A len cap (by rw [he]; exact ht) kl kh lo hi h0 h1 h2
  have h' := run_sliceAt_slice (P := P) w t (.slice A len cap) (some (.int kl lo)) (some (.int kh hi)) none (by rw [he]; exact ht)
  rw [he, hs] at h
  simp [execOp, hx, hy, hz, h', h]
theorem y_slice_lo {e : TypeId} {s : Nat} {A : Option Addr} {len cap : Nat} {lo : Int} {kl : IntKind} {y : Operand} (ht : P.underlying t = some (.slice e)) (hs : ∀ w, (sizeOf e).run P w = .ok s w)
    (hx : ev ρ x = .slice A len cap) (hy : ev ρ y = .int kl lo) (h0 : 0 ≤ lo) (h1 : lo ≤ len) :
    Yield P w0 T ρ ⟨dst, .slice t x (some y) none none, ty, pos, af, gd⟩ (sliced A lo.toNat len cap s) := fun w _ => by
  have he : P.elem t = e := by simp [Program.elem, ht]
  have h := run_slice_l (P := P) w t A len cap (by rw [he]; exact ht) kl lo h0 h1
  have h' := run_sliceAt_slice (P := P) w t (.slice A len cap) (some (.int kl lo)) none none (by rw [he]; exact ht)
  rw [he, hs] at h
  simp [execOp, hx, hy, h', h]
theorem y_slice_hi {e : TypeId} {s : Nat} {A : Option Addr} {len cap : Nat} {hi : Int} {kh : IntKind} {z : Operand} (ht : P.underlying t = some (.slice e)) (hs : ∀ w, (sizeOf e).run P w = .ok s w)
    (hx : ev ρ x = .slice A len cap) (hz : ev ρ z = .int kh hi) (h0 : 0 ≤ hi) (h2 : hi ≤ cap) :
    Yield P w0 T ρ ⟨dst, .slice t x none (some z) none, ty, pos, af, gd⟩ (sliced A 0 hi.toNat cap s) := fun w _ => by
  have he : P.elem t = e := by simp [Program.elem, ht]
  have h := run_slice_h (P := P) w t A len cap (by rw [he]; exact ht) kh hi h0 h2
  have h' := run_sliceAt_slice (P := P) w t (.slice A len cap) none (some (.int kh hi)) none (by rw [he]; exact ht)
  rw [he, hs] at h
  simp [execOp, hx, hz, h', h]
end

/-- what a cut of a slice reads as -/
theorem Rdl.cut {α : Type} {w : World} {lo size : Nat} {f : α → List Value} {A : Option Addr} {l : List α} (h : Rdl w lo size f A l) {i j cap : Nat} (hij : i ≤ j) (hj : j ≤ l.length) (hc : l.length ≤ cap) :
    Rdl w lo size f (if cap = i then A else A.map (·.add (i * size))) ((l.drop i).take (j - i)) := fun hn => by
  have hn' : i < j := by simp at hn; omega
  obtain ⟨ad, rfl, hb, hcell⟩ := h (by omega)
  rw [if_neg (by omega)]
  refine ⟨ad.add (i * size), rfl, by rw [block_add]; exact hb, fun k x hx m u hu => ?_⟩
  rw [add_add]
  have hk : l[i + k]? = some x := by
    rw [List.getElem?_take] at hx
    split at hx
    · rwa [List.getElem?_drop] at hx
    · cases hx
  have := hcell (i + k) x hk m u hu
  rw [← this]; congr 2; rw [Nat.add_mul]; omega
end Go.Cf
