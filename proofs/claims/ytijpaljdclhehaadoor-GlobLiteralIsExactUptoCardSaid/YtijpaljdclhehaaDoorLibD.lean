/- Own walking frame, part D: what single operations yield. Program independent. -/
import Derived.Test.YtijpaljdclhehaaDoorLibC
import Derived.Deep.AppendLies
import Derived.OwnWalk
namespace Go.Cf
open Go.RowKit

def In64 (x : Int) : Prop := -9223372036854775808 ≤ x ∧ x ≤ 9223372036854775807
theorem wrap_in {x : Int} (h : In64 x) : IntKind.i64.wrap x = x := by
  unfold In64 at h
  rw [IntKind.wrap_i64]; omega

section
variable {P : Program} {w0 : World} {T : List Reg} {ρ : Env} {dst : Option Tmp} {ty : TypeId} {pos : String} {af : Array Edge} {gd : Option (Nat × Bool)} {x y z : Operand} {v : Value} {t yt : TypeId}

theorem y_bare {o : Oper} (h : Yield P w0 T ρ o v) : Yield P w0 T ρ (bare o) v := h
theorem y_move (hx : ev ρ x = v) : Yield P w0 T ρ ⟨dst, .move x, ty, pos, af, gd⟩ v := fun _ _ => by subst hx; rfl
theorem y_assign (hx : ev ρ x = v) : Yield P w0 T ρ ⟨dst, .assign x, ty, pos, af, gd⟩ v := fun _ _ => by subst hx; rfl
theorem y_pick_t {b : Bool} (hc : ev ρ x = .bool b) (hb : b = true) (hy : ev ρ y = v) : Yield P w0 T ρ ⟨dst, .pick x y z, ty, pos, af, gd⟩ v := fun _ _ => by
  subst hb; simp [execOp, hc, hy, asBool]
theorem y_pick_f {b : Bool} (hc : ev ρ x = .bool b) (hb : b = false) (hz : ev ρ z = v) : Yield P w0 T ρ ⟨dst, .pick x y z, ty, pos, af, gd⟩ v := fun _ _ => by
  subst hb; simp [execOp, hc, hz, asBool]
/-- any binary operation, by its run -/
theorem y_bin {op : BinOp} {vx vy : Value} (hx : ev ρ x = vx) (hy : ev ρ y = vy) (hg : ∀ w, (eqGuard op t x y vx vy).run P w = .ok () w) (hr : ∀ w, (binOp op t vx vy).run P w = .ok v w) :
    Yield P w0 T ρ ⟨dst, .binOp op t x y yt, ty, pos, af, gd⟩ v := fun w _ => by
  subst hx; subst hy; simp [execOp, hg, hr]
section
variable {k : IntKind} {a b : Int} (hx : ev ρ x = .int k a) (hy : ev ρ y = .int k b)
include hx hy
theorem y_lss : Yield P w0 T ρ ⟨dst, .binOp .lss t x y yt, ty, pos, af, gd⟩ (.bool (decide (a < b))) := fun _ _ => by simp [execOp, go_sem, hx, hy]
theorem y_leq : Yield P w0 T ρ ⟨dst, .binOp .leq t x y yt, ty, pos, af, gd⟩ (.bool (decide (a ≤ b))) := fun _ _ => by simp [execOp, go_sem, hx, hy]
theorem y_gtr : Yield P w0 T ρ ⟨dst, .binOp .gtr t x y yt, ty, pos, af, gd⟩ (.bool (decide (b < a))) := fun _ _ => by simp [execOp, go_sem, hx, hy]
theorem y_geq : Yield P w0 T ρ ⟨dst, .binOp .geq t x y yt, ty, pos, af, gd⟩ (.bool (decide (b ≤ a))) := fun _ _ => by simp [execOp, go_sem, hx, hy]
theorem y_eql : Yield P w0 T ρ ⟨dst, .binOp .eql t x y yt, ty, pos, af, gd⟩ (.bool (decide (a = b))) := fun _ _ => by
  simp only [execOp, go_sem, hx, hy]; simp; rfl
theorem y_neq : Yield P w0 T ρ ⟨dst, .binOp .neq t x y yt, ty, pos, af, gd⟩ (.bool (decide (a ≠ b))) := fun _ _ => by
  simp only [execOp, go_sem, hx, hy]; simp; cases h : decide (a = b) <;> simp_all
end
section
variable {a b : Int} (hx : ev ρ x = .int .i64 a) (hy : ev ρ y = .int .i64 b)
include hx hy
theorem y_add (hr : In64 (a + b)) : Yield P w0 T ρ ⟨dst, .binOp .add t x y yt, ty, pos, af, gd⟩ (.int .i64 (a + b)) := fun _ _ => by
  have h := wrap_in hr
  simp [execOp, go_sem, hx, hy, Op.intArith, h]
theorem y_sub (hr : In64 (a - b)) : Yield P w0 T ρ ⟨dst, .binOp .sub t x y yt, ty, pos, af, gd⟩ (.int .i64 (a - b)) := fun _ _ => by
  have h := wrap_in hr
  simp [execOp, go_sem, hx, hy, Op.intArith, h]
theorem y_mul (hr : In64 (a * b)) : Yield P w0 T ρ ⟨dst, .binOp .mul t x y yt, ty, pos, af, gd⟩ (.int .i64 (a * b)) := fun _ _ => by
  have h := wrap_in hr
  simp [execOp, go_sem, hx, hy, Op.intArith, h]
end
theorem y_not {b : Bool} (hx : ev ρ x = .bool b) : Yield P w0 T ρ ⟨dst, .unOp .not t x, ty, pos, af, gd⟩ (.bool (!b)) := fun _ _ => by
  simp [execOp, hx, Op.unary]
theorem y_neg {a : Int} (hx : ev ρ x = .int .i64 a) (hr : In64 (-a)) : Yield P w0 T ρ ⟨dst, .unOp .neg t x, ty, pos, af, gd⟩ (.int .i64 (-a)) := fun _ _ => by
  have h := wrap_in hr
  simp [execOp, hx, Op.unary, go_sem, h]
theorem y_eqlb {a b : Bool} (hx : ev ρ x = .bool a) (hy : ev ρ y = .bool b) (ht : P.underlying t = some .bool) : Yield P w0 T ρ ⟨dst, .binOp .eql t x y yt, ty, pos, af, gd⟩ (.bool (a == b)) := fun w _ => by
  simp only [execOp, go_sem, hx, hy]; simp [run_eql_bool w t a b ht]
theorem y_neqb {a b : Bool} (hx : ev ρ x = .bool a) (hy : ev ρ y = .bool b) (ht : P.underlying t = some .bool) : Yield P w0 T ρ ⟨dst, .binOp .neq t x y yt, ty, pos, af, gd⟩ (.bool (!(a == b))) := fun w _ => by
  simp only [execOp, go_sem, hx, hy]; simp [run_neq_bool w t a b ht]
theorem y_eqls {a b : ByteArray} (hx : ev ρ x = .string a) (hy : ev ρ y = .string b) : Yield P w0 T ρ ⟨dst, .binOp .eql t x y yt, ty, pos, af, gd⟩ (.bool (a.toList == b.toList)) := fun _ _ => by
  simp [execOp, go_sem, hx, hy]
theorem y_neqs {a b : ByteArray} (hx : ev ρ x = .string a) (hy : ev ρ y = .string b) : Yield P w0 T ρ ⟨dst, .binOp .neq t x y yt, ty, pos, af, gd⟩ (.bool !(a.toList == b.toList)) := fun _ _ => by
  simp [execOp, go_sem, hx, hy]
theorem y_len {e : TypeId} {A : Option Addr} {n c : Nat} (ht : P.underlying t = some (.slice e)) (hx : ev ρ x = .slice A n c) :
    Yield P w0 T ρ ⟨dst, .call { callee := .builtin .len, args := #[x], argTypes := #[t] }, ty, pos, af, gd⟩ (.int .i64 n) := fun w _ => by
  have : P.elem t = e := by simp [Program.elem, ht]
  have h := run_len_slice w t ty A n c (by rw [this]; exact ht)
  simp [execOp, resolve, invoke, builtin, hx, h, goInt]
theorem y_lens {s : ByteArray} (ht : P.underlying t = some .string) (hx : ev ρ x = .string s) :
    Yield P w0 T ρ ⟨dst, .call { callee := .builtin .len, args := #[x], argTypes := #[t] }, ty, pos, af, gd⟩ (.int .i64 s.size) := fun w _ => by
  have h := run_len_string w t ty s ht
  simp [execOp, resolve, invoke, builtin, hx, h, goInt]
theorem y_fieldAddr {i off : Nat} {p : Addr} (hf : ∀ (a : Addr) (w : World), (Instr.fieldAt t (.pointer (some a)) i).run P w = .ok (.pointer (some (a.add off))) w) (hx : ev ρ x = .pointer (some p)) :
    Yield P w0 T ρ ⟨dst, .fieldAddr t x i, ty, pos, af, gd⟩ (.pointer (some (p.add off))) := fun w _ => by
  simp [execOp, hx, hf]
theorem y_fieldAddr_box {i off b o : Nat} (hf : ∀ (a : Addr) (w : World), (Instr.fieldAt t (.pointer (some a)) i).run P w = .ok (.pointer (some (a.add off))) w) (hx : ev ρ x = .pointer (some ⟨b, o, none⟩)) :
    Yield P w0 T ρ ⟨dst, .fieldAddr t x i, ty, pos, af, gd⟩ (.pointer (some ⟨b, o + off, none⟩)) := fun w hM => by
  have h := y_fieldAddr (dst := dst) (ty := ty) (pos := pos) (af := af) (gd := gd) hf hx w hM
  rw [Addr.add_lit] at h; exact h
theorem add_add (a : Addr) (i j : Nat) : (a.add i).add j = a.add (i + j) := by
  unfold Addr.add
  by_cases hi : i = 0 <;> by_cases hj : j = 0 <;> simp [hi, hj, Nat.add_assoc]
theorem block_add (a : Addr) (n : Nat) : (a.add n).block = a.block := by unfold Addr.add; split <;> rfl
theorem y_fieldAddr_add {i off m : Nat} {p : Addr} (hf : ∀ (a : Addr) (w : World), (Instr.fieldAt t (.pointer (some a)) i).run P w = .ok (.pointer (some (a.add off))) w) (hx : ev ρ x = .pointer (some (p.add m))) :
    Yield P w0 T ρ ⟨dst, .fieldAddr t x i, ty, pos, af, gd⟩ (.pointer (some (p.add (m + off)))) := fun w hM => by
  have h := y_fieldAddr (dst := dst) (ty := ty) (pos := pos) (af := af) (gd := gd) hf hx w hM
  rw [add_add] at h; exact h
theorem y_indexAddr {e : TypeId} {s : Nat} {a : Addr} {len cap m : Nat} {i : Int} (ht : P.underlying t = some (.slice e)) (hs : ∀ w, (sizeOf e).run P w = .ok s w)
    (hx : ev ρ x = .slice (some a) len cap) {k : IntKind} (hi : ev ρ y = .int k i) (hm : i.toNat = m) (h0 : 0 ≤ i) (h1 : i < len) :
    Yield P w0 T ρ ⟨dst, .indexAddr t x y, ty, pos, af, gd⟩ (.pointer (some (a.add (m * s)))) := fun w _ => by
  have : P.elem t = e := by simp [Program.elem, ht]
  have h := run_indexAt_slice w t a len cap k i (by rw [this]; exact ht)
  rw [if_pos ⟨h0, h1⟩, this, hs] at h
  subst hm
  simp [execOp, hx, hi, h]
theorem y_indexAddr_arr {e : TypeId} {s : Nat} {b o len m : Nat} {i : Int} (ht : P.underlying t = some (.array len e)) (hs : ∀ w, (sizeOf e).run P w = .ok s w)
    (hx : ev ρ x = .pointer (some ⟨b, o, none⟩)) {k : IntKind} (hi : ev ρ y = .int k i) (hm : i.toNat = m) (h0 : 0 ≤ i) (h1 : i < len) :
    Yield P w0 T ρ ⟨dst, .indexAddr t x y, ty, pos, af, gd⟩ (.pointer (some ⟨b, o + m * s, none⟩)) := fun w _ => by
  have e1 : P.elem t = e := by simp [Program.elem, ht]
  have e2 : P.arrayLen t = len := by simp [Program.arrayLen, ht]
  have h := run_indexAt_array w t ⟨b, o, none⟩ k i (by rw [e1, e2]; exact ht)
  rw [e2, if_pos ⟨h0, h1⟩, e1, hs] at h
  subst hm
  simp only [execOp, hx, hi, Sem.run_bind, h, Result.andThen_ok, Sem.run_pure, Addr.add_lit]
theorem y_load {p : Addr} (ht : ∀ w, (isAgg t).run P w = .ok false w) (hx : ev ρ x = .pointer (some p)) (hc : Cell w0 T p v) :
    Yield P w0 T ρ ⟨dst, .load t x, ty, pos, af, gd⟩ v := fun w hM => by
  have := hc w hM
  simp [execOp, hx, Instr.loadAt, Instr.sureAddr, loadVar, ht, this]
theorem y_loads {p : Addr} {cs : List Value} {m : Nat} (ht : ∀ w, (isAgg t).run P w = .ok true w) (hs : ∀ w, (sizeOf t).run P w = .ok m w) (hl : cs.length = m) (hx : ev ρ x = .pointer (some p))
    (hc : ∀ j u, cs[j]? = some u → Cell w0 T (p.add j) u) : Yield P w0 T ρ ⟨dst, .load t x, ty, pos, af, gd⟩ (.agg cs.toArray) := fun w hM => by
  have h := run_loadCells_list (P := P) w p cs (fun j u hu => hc j u hu w hM)
  subst hl
  simp [execOp, hx, Instr.loadAt, Instr.sureAddr, loadVar, ht, hs, h]
/-- the cells of a whole block -/
theorem cells_box (i : Nat) {b : Nat} {cs : List Value} {e : TypeId} {fz : Nat × Nat} (hi : T[i]? = some (box b (.cells cs.toArray e fz))) :
    ∀ j u, cs[j]? = some u → Cell w0 T ((⟨b, 0, none⟩ : Addr).add j) u := fun j u hu => by
  rw [Addr.add_lit, Nat.zero_add]
  exact cell_box i hi (by simpa using hu)
theorem cells_of1 {p : Addr} {c0 : Value} (h0 : Cell w0 T p c0) : ∀ j u, [c0][j]? = some u → Cell w0 T (p.add j) u
  | 0, u, hu => by simp at hu; subst hu; simpa [Addr.add] using h0
  | j + 1, u, hu => by simp at hu
theorem cells_of2 {p : Addr} {c0 c1 : Value} (h0 : Cell w0 T (p.add 0) c0) (h1 : Cell w0 T (p.add 1) c1) : ∀ j u, [c0, c1][j]? = some u → Cell w0 T (p.add j) u
  | 0, u, hu => by simp at hu; subst hu; exact h0
  | 1, u, hu => by simp at hu; subst hu; exact h1
  | j + 2, u, hu => by simp at hu
theorem cells_of3 {p : Addr} {c0 c1 c2 : Value} (h0 : Cell w0 T (p.add 0) c0) (h1 : Cell w0 T (p.add 1) c1) (h2 : Cell w0 T (p.add 2) c2) : ∀ j u, [c0, c1, c2][j]? = some u → Cell w0 T (p.add j) u
  | 0, u, hu => by simp at hu; subst hu; exact h0
  | 1, u, hu => by simp at hu; subst hu; exact h1
  | 2, u, hu => by simp at hu; subst hu; exact h2
  | j + 3, u, hu => by simp at hu
theorem y_build {parts : Array (Nat × Operand)} {vs : List (Nat × Value)} {cells : Array Value} (hp : parts.toList.map (fun q => (q.1, ev ρ q.2)) = vs) (hb : P.built t vs = some cells) :
    Yield P w0 T ρ ⟨dst, .build t parts, ty, pos, af, gd⟩ (.agg cells) := fun w _ => by
  have h := run_build w t (parts.map fun q => (q.1, ev ρ q.2)) cells (by rw [Array.toList_map, hp]; exact hb)
  simp only [execOp, Sem.run_bind]
  have e : (parts.map fun (x : Nat × Operand) => match x with | (i, x) => (i, ev ρ x)) = parts.map fun q => (q.1, ev ρ q.2) := rfl
  rw [e, h]; rfl
theorem y_extract {vs : Array Value} {i : Nat} (hx : ev ρ x = .tuple vs) (hi : vs[i]? = some v) : Yield P w0 T ρ ⟨dst, .extract x i, ty, pos, af, gd⟩ v := fun _ _ => by
  simp [execOp, hx, Instr.extract, hi]
/-- any operation without a look at the world, by its run -/
theorem y_run {o : Oper} (h : ∀ w, (execOp (ev ρ) o).run P w = .ok (.value v) w) : Yield P w0 T ρ o v := fun w _ => h w
end

/-! ### operations that change the world -/
section
variable {P : Program} {n : Fr} {w0 : World} {N : Env → World → Prop} {ρ : Env} {T : List Reg} {full : Array Oper} {rest : List Oper} {d : Nat} {ty : TypeId} {pos : String} {af : Array Edge} {x y : Operand} {v : Value} {t : TypeId}

theorem mem_box (w : World) (hM : Mem w0 T w) (cs : Array Value) (e : TypeId) : Mem w0 (T ++ [box w.heap.size (.cells cs e)]) (w.alloc (.cells cs e)) :=
  hM.add ((Below.refl _ _).alloc (Nat.le_refl _) _) (heap_alloc_new w _) (fun b hb => by
    have hb' : b = w.heap.size := hb
    subst hb'; simp)
theorem gop_alloc {z : Value} {cs : Array Value} (hz : ∀ w, (zeroValue t).run P w = .ok z w) (hcs : z.cells = cs) (hlt : Nat.blt d n.n = true)
    (h : ∀ b, w0.heap.size ≤ b → gops P n w0 full rest N (upd ρ d (.pointer (some ⟨b, 0, none⟩))) (T ++ [box b (.cells cs t)])) :
    gops P n w0 full (⟨some d, .alloc t, ty, pos, af, none⟩ :: rest) N ρ T :=
  gop_w (fun w hM => ⟨.pointer (some ⟨w.heap.size, 0, none⟩), w.alloc (.cells cs t), by
      subst hcs; simp [execOp, Instr.alloc, hz, newVar, newRow], h w.heap.size hM.low.size _ (mem_box w hM cs t)⟩) rfl rfl hlt
theorem gop_box {cs : Array Value} (hx : ev ρ x = v) (hcs : v.cells = cs) (hlt : Nat.blt d n.n = true)
    (h : ∀ b, w0.heap.size ≤ b → gops P n w0 full rest N (upd ρ d (.pointer (some ⟨b, 0, none⟩))) (T ++ [box b (.cells cs t)])) :
    gops P n w0 full (⟨some d, .box t x, ty, pos, af, none⟩ :: rest) N ρ T :=
  gop_w (fun w hM => ⟨.pointer (some ⟨w.heap.size, 0, none⟩), w.alloc (.cells cs t), by
      subst hcs; subst hx; simp [execOp, Instr.box, newVar, newRow], h w.heap.size hM.low.size _ (mem_box w hM cs t)⟩) rfl rfl hlt

/-- cells written one behind the other into one block -/
def putAt (cs : Array Value) (off : Nat) : List Value → Array Value
  | [] => cs
  | u :: us => putAt (cs.setIfInBounds off u) (off + 1) us
theorem size_putAt : ∀ (us : List Value) (cs : Array Value) (off : Nat), (putAt cs off us).size = cs.size
  | [], _, _ => rfl
  | _ :: us, cs, off => by show (putAt _ _ us).size = _; rw [size_putAt us]; simp
theorem run_storeCells {b off : Nat} {e : TypeId} : ∀ (us : List Value) (i : Nat) (cs : Array Value) (w : World), w.heap[b]? = some (.cells cs e (0, 0)) → (∀ u ∈ us, u.oneCell' = true) →
    off + i + us.length ≤ cs.size → ∃ w', (storeCells ⟨b, off, none⟩ us i).run P w = .ok () w' ∧ w'.heap[b]? = some (.cells (putAt cs (off + i) us) e (0, 0)) ∧ Chg (fun k => k = b) w w'
  | [], i, cs, w, hb, _, _ => ⟨w, rfl, hb, ⟨rfl, rfl, rfl, Nat.le_refl _, fun _ _ _ => rfl⟩⟩
  | u :: us, i, cs, w, hb, h1, hl => by
    have hl' : off + i < cs.size := by simp at hl; omega
    have hc : w.cell? ⟨b, off + i, none⟩ = some cs[off + i] := by simp [World.cell?, hb, hl']
    have hf : w.frozen? ⟨b, off + i, none⟩ = false := by simp [World.frozen?, hb]
    have hb' : (w.setCell ⟨b, off + i, none⟩ u).heap[b]? = some (.cells (cs.setIfInBounds (off + i) u) e (0, 0)) := by
      simp [World.setCell, Array.getElem?_modify, hb]
    obtain ⟨w', hr, hb2, hc2⟩ := run_storeCells (off := off) us (i + 1) _ _ hb' (fun z hz => h1 z (by simp [hz])) (by simp at hl ⊢; omega)
    refine ⟨w', ?_, hb2, (Chg.setCell w ⟨b, off + i, none⟩ u).trans hc2⟩
    have hst := run_store P w ⟨b, off + i, none⟩ u .plain (h1 u (by simp))
    simp only [storeCells, Sem.run_bind, Addr.add_lit]
    rw [hst]
    simp only [hc, hf]
    simpa using hr
theorem mem_store {i b off : Nat} {cs : Array Value} {e : TypeId} (us : List Value) (w : World) (hM : Mem w0 T w) (hi : T[i]? = some (box b (.cells cs e))) (h1 : ∀ u ∈ us, u.oneCell' = true)
    (hl : off + us.length ≤ cs.size) : ∃ w', (storeCells ⟨b, off, none⟩ us 0).run P w = .ok () w' ∧ Mem w0 (T.set i (box b (.cells (putAt cs off us) e))) w' := by
  have hb : w.heap[b]? = some (.cells cs e (0, 0)) := hM.ok _ (List.mem_of_getElem? hi)
  obtain ⟨w', hr, hb', hc⟩ := run_storeCells (P := P) (off := off) us 0 cs w hb h1 (by omega)
  have hlt : b < w.heap.size := hM.lt _ (List.mem_of_getElem? hi) b rfl
  exact ⟨w', hr, hM.upd hi hc hb' (fun k hk => ⟨.inl hk, by have hk' : k = b := hk; subst hk'; exact Nat.lt_of_lt_of_le hlt hc.size⟩)⟩
/-- a value stored into a block known whole: entry i of the list -/
theorem gop_store (i : Nat) {b off m : Nat} {cs cs' : Array Value} {e : TypeId} {us : List Value} {T' : List Reg} (hx : ev ρ x = .pointer (some ⟨b, off, none⟩)) (hy : ev ρ y = v) (hs : ∀ w, (sizeOf t).run P w = .ok m w) (hv : v.cells.toList = us)
    (hm : us.length = m) (h1 : us.all Value.oneCell' = true) (hi : T[i]? = some (box b (.cells cs e))) (hl : off + m ≤ cs.size) (hcs : putAt cs off us = cs') (hT : T.set i (box b (.cells cs' e)) = T')
    (h : gops P n w0 full rest N ρ T') : gops P n w0 full (⟨none, .store t x y, ty, pos, af, none⟩ :: rest) N ρ T :=
  gop_s (fun w hM => by
    obtain ⟨w', hr, hM'⟩ := mem_store (P := P) (off := off) us w hM hi (by simpa [List.all_eq_true] using h1) (by omega)
    refine ⟨w', ?_, h w' (by subst hcs; subst hT; exact hM')⟩
    have hsz : v.cells.size = m := by rw [← Array.length_toList, hv, hm]
    simp [execOp, hx, hy, Instr.storeAt, Instr.sureAddr, storeVar, hs, hsz, hv, hr]) rfl rfl
end
end Go.Cf
