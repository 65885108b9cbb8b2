/- Own frame, plain models and walks, part 5 (texts of this claim put together). -/
import Derived.Test.YtbkameioedmlkaaGreatDoorP36d
import Derived.Ground.Names2Prog
import Derived.Ground.Names8Prog
import Derived.Ground.SlgnProg
import Derived.Lib.Bytealg
import Derived.Lib.ConvBytes
import Derived.Lib.RowBridge
import Derived.Lib.Strings
import Derived.Shelf.LaysC
import Derived.Shelf.LaysM
import Derived.Shelf.SlGeneric
import Derived.Shelf.Slices.Cells
import Derived.Shelf.Slices.Clone
import Derived.Shelf.Slices.CompactS
import Derived.Shelf.Slices.In.SortNone
import Derived.Shelf.SlicesE.Clone
import Derived.Shelf.Small.Bits
import Derived.Shelf.Small.Strs
import Derived.Shelf.Sort.Plain
import Derived.Shelf.Spec.SlicesGrow
import Derived.Shelf.Strconv.Atoi
import Derived.Shelf.Strconv.AtoiAll
import Derived.Shelf.Strconv.AtoiErrFast
import Derived.Shelf.Strconv.AtoiFail
import Derived.Shelf.Strconv.AtoiInnerAll
import Derived.Shelf.Strconv.AtoiLong
import Derived.Shelf.Strconv.Clone
import Derived.Shelf.Strconv.ErrVarAll
import Derived.Shelf.Strconv.Itoa0
import Derived.Shelf.Strconv.Itoa1
import Derived.Shelf.Strconv.Itoa2
import Derived.Shelf.Strconv.Itoa3
import Derived.Shelf.Strconv.Lower
import Derived.Shelf.Strconv.ParseInt10
import Derived.Shelf.Strconv.ParseIntEmpty
import Derived.Shelf.Strconv.ParseUint10
import Derived.Shelf.Strconv.ParseUint10Any
import Derived.Shelf.Strconv.ParseUint10Empty
import Derived.Shelf.Strconv.RangeError
import Derived.Shelf.Strconv.SyntaxError
import Derived.Shelf.Strconv.ToError
import Derived.Shelf.Strconv.ToErrorRange
import Derived.Shelf.Strings.Count
import Derived.Shelf.Strings.Explode
import Derived.Shelf.Strings.Prefix
import Derived.Shelf.Strings.RuneCount
import Derived.Shelf.Strings.Search1
import Derived.Shelf.Strings.Search2
import Derived.Shelf.Strings.Search3
import Derived.Shelf.Strings.Shaped
import Derived.Shelf.Strings.Split
import Derived.Shelf.Strings.SplitShaped
import Derived.Shelf.Unicode.Decode
import Derived.Shelf.Unicode.DecodeAny
import Derived.Shelf.Unicode.DecodeSlow
import Derived.Shelf.Utf8.RuneCount
import Derived.Sort.OwnSorted
import Derived.Sort.Walk0
import Derived.Test.YtbkameioedmlkaaGreatDoorProg
namespace Go.Cf
open Go.RowKit
def dMod : Int := 2305843009213693951
def mulN : Nat → Int → Int → Int → Int
  | 0, out, _, _ => out
  | n + 1, out, a, b => if 0 < b then mulN n (if b % 2 = 1 then (out + a) % dMod else out) (2 * a % dMod) (b / 2) else out
def mulD (a b : Int) : Int := mulN 63 0 a b
def nextD (x y f : Int) : Int := (mulD x f + y) % dMod
def ofL (h : Int) (bs : List UInt8) : Int := bs.foldl (fun h b => nextD h ((b.toNat : Int) + 1) 257) h
def ofD (s : ByteArray) : Int := ofL 1 s.data.toList
def pairD (a b : Int) : Int := nextD a (nextD b 7 31) 1000003
def strL (h : Int) (l : List ByteArray) : Int := l.foldl (fun h s => pairD h (ofD s)) h
def strD (l : List ByteArray) : Int := strL 2 l
structure MulI (n : Nat) (out a b : Int) : Prop where
  o0 : 0 ≤ out
  o1 : out < dMod
  a0 : 0 ≤ a
  a1 : a < dMod
  b0 : 0 ≤ b
  b1 : b < 2 ^ n
theorem dMod_pos : (0 : Int) < dMod := by decide
theorem mulN_stop {n : Nat} {out a b : Int} (h : ¬ 0 < b) : mulN n out a b = out := by
  cases n with
  | zero => rfl
  | succ n => rw [mulN, if_neg h]
theorem MulI.pos {n : Nat} {out a b : Int} (h : MulI n out a b) (hb : 0 < b) : 0 < n := by
  rcases Nat.eq_zero_or_pos n with h0 | h0
  · subst h0; have h1 := h.b1; simp at h1; omega
  · exact h0
theorem MulI.next {n : Nat} {out a b : Int} (h : MulI n out a b) (hb : 0 < b) : MulI (n - 1) (if b % 2 = 1 then (out + a) % dMod else out) (2 * a % dMod) (b / 2) := by
  have hn := h.pos hb
  obtain ⟨m, rfl⟩ : ∃ m, n = m + 1 := ⟨n - 1, by omega⟩
  have h2 : (2 : Int) ^ (m + 1) = 2 * 2 ^ m := by rw [Int.pow_succ, Int.mul_comm]
  have h1 := h.b1
  rw [h2] at h1
  have hp := dMod_pos
  refine ⟨?_, ?_, Int.emod_nonneg _ (by omega), Int.emod_lt_of_pos _ hp, by have := h.b0; omega, ?_⟩
  · split
    · exact Int.emod_nonneg _ (by omega)
    · exact h.o0
  · split
    · exact Int.emod_lt_of_pos _ hp
    · exact h.o1
  · show b / 2 < 2 ^ (m + 1 - 1)
    rw [Nat.add_sub_cancel]
    have := h.b0
    generalize (2 : Int) ^ m = q at h1 ⊢
    omega
theorem mulN_next {n : Nat} {out a b : Int} (h : MulI n out a b) (hb : 0 < b) : mulN (n - 1) (if b % 2 = 1 then (out + a) % dMod else out) (2 * a % dMod) (b / 2) = mulN n out a b := by
  have hn := h.pos hb
  obtain ⟨m, rfl⟩ : ∃ m, n = m + 1 := ⟨n - 1, by omega⟩
  rw [mulN, if_pos hb]; rfl
theorem mulN_bd : ∀ (n : Nat) (out a b : Int), MulI n out a b → 0 ≤ mulN n out a b ∧ mulN n out a b < dMod
  | 0, out, a, b, h => ⟨h.o0, h.o1⟩
  | n + 1, out, a, b, h => by
    by_cases hb : 0 < b
    · rw [← mulN_next h hb]
      exact mulN_bd n _ _ _ (h.next hb)
    · rw [mulN_stop hb]; exact ⟨h.o0, h.o1⟩
theorem mulI_start {a b : Int} (h0 : 0 ≤ a) (h1 : a < dMod) (h2 : 0 ≤ b) (h3 : b < 9223372036854775808) : MulI 63 0 a b := ⟨Int.le_refl _, dMod_pos, h0, h1, h2, h3⟩
theorem mulD_bd {a b : Int} (h0 : 0 ≤ a) (h1 : a < dMod) (h2 : 0 ≤ b) (h3 : b < 9223372036854775808) : 0 ≤ mulD a b ∧ mulD a b < dMod := mulN_bd _ _ _ _ (mulI_start h0 h1 h2 h3)
theorem nextD_bd (x y f : Int) : 0 ≤ nextD x y f ∧ nextD x y f < dMod := ⟨Int.emod_nonneg _ (by have := dMod_pos; omega), Int.emod_lt_of_pos _ dMod_pos⟩
theorem ofL_bd : ∀ (l : List UInt8) (h : Int), 0 ≤ h ∧ h < dMod → 0 ≤ ofL h l ∧ ofL h l < dMod
  | [], h, hh => hh
  | b :: l, h, _ => ofL_bd l _ (nextD_bd _ _ _)
theorem ofD_bd (s : ByteArray) : 0 ≤ ofD s ∧ ofD s < dMod := ofL_bd _ _ (by decide)
theorem ofL_take {l : List UInt8} {h : Int} {k : Nat} (hk : k < l.length) : ofL h (l.take (k + 1)) = nextD (ofL h (l.take k)) ((l[k].toNat : Int) + 1) 257 := by
  unfold ofL
  rw [List.take_succ_eq_append_getElem hk, List.foldl_append]; rfl
theorem strL_bd : ∀ (l : List ByteArray) (h : Int), 0 ≤ h ∧ h < dMod → 0 ≤ strL h l ∧ strL h l < dMod
  | [], h, hh => hh
  | b :: l, h, _ => strL_bd l _ (nextD_bd _ _ _)
theorem strD_bd (l : List ByteArray) : 0 ≤ strD l ∧ strD l < dMod := strL_bd _ _ (by decide)
theorem strL_take {l : List ByteArray} {h : Int} {k : Nat} (hk : k < l.length) : strL h (l.take (k + 1)) = pairD (strL h (l.take k)) (ofD l[k]) := by
  unfold strL
  rw [List.take_succ_eq_append_getElem hk, List.foldl_append]; rfl
abbrev u8Cells (b : UInt8) : List Value := [.int .u8 b.toNat]
def brow (b : Nat) (s : ByteArray) : Reg :=
  ⟨fun k => k = b, fun w => ∀ j, (hj : j < s.data.toList.length) → w.cell? ⟨b, j, none⟩ = some (.int .u8 (s.data.toList[j]).toNat), fun _ _ h hw j hj => by rw [World.cell?_of_block (h b rfl)]; exact hw j hj⟩
theorem brow_rdl {b : Nat} {s : ByteArray} {w : World} (h : (brow b s).ok w) : Rdl w b 1 u8Cells (some ⟨b, 0, none⟩) s.data.toList := fun _ => ⟨_, rfl, Nat.le_refl _, fun k x hk j u hu => by
  obtain ⟨hk1, rfl⟩ := List.getElem?_eq_some_iff.1 hk
  have hj : j = 0 := by have h9 := (List.getElem?_eq_some_iff.1 hu).1; simp at h9; omega
  subst hj
  simp only [u8Cells, List.getElem?_cons_zero, Option.some.injEq] at hu
  rw [Addr.add_lit, ← hu]
  have h9 := h k hk1
  simpa using h9⟩
section
variable {P : Program} {n : Fr} {w0 : World} {N : Env → World → Prop} {ρ : Env} {T : List Reg} {full : Array Oper} {rest : List Oper} {dst : Option Tmp} {ty t : TypeId} {pos : String} {af : Array Edge} {gd : Option (Nat × Bool)} {x y : Operand} {a b : Int}
theorem y_rem {yt : TypeId} (hx : ev ρ x = .int .i64 a) (hy : ev ρ y = .int .i64 b) (h0 : 0 ≤ a) (h1 : 0 < b) (h2 : b < 9223372036854775808) : Yield P w0 T ρ ⟨dst, .binOp .rem t x y yt, ty, pos, af, gd⟩ (.int .i64 (a % b)) := fun _ _ => by
  have hb : b ≠ 0 := by omega
  simp [execOp, go_sem, hx, hy, Op.intDiv, hb, Int.tmod_eq_emod_of_nonneg h0]
theorem wrap_u64 {a : Int} (h0 : 0 ≤ a) (h1 : a < 18446744073709551616) : IntKind.u64.wrap a = a := by
  rw [IntKind.wrap_u64]; omega
theorem y_toU (hs : (P.underlying t).isSome = true) {d : TypeId} (hd : P.underlying d = some (.int .u64)) (hx : ev ρ x = .int .i64 a) (h0 : 0 ≤ a) (h1 : a < 18446744073709551616) : Yield P w0 T ρ ⟨dst, .convert t d x, ty, pos, af, gd⟩ (.int .u64 a) := fun w _ => by
  have hk : P.intKind d = .u64 := by simp [Program.intKind, hd]
  have h := run_convert_int (P := P) w t d .i64 a hs (by rw [hk]; exact hd)
  rw [hk, wrap_u64 h0 h1] at h
  simp [execOp, hx, h]
theorem y_ofU (hs : (P.underlying t).isSome = true) {d : TypeId} (hd : P.underlying d = some (.int .i64)) (hx : ev ρ x = .int .u64 a) (h0 : 0 ≤ a) (h1 : a < 9223372036854775808) : Yield P w0 T ρ ⟨dst, .convert t d x, ty, pos, af, gd⟩ (.int .i64 a) := fun w _ => by
  have hk : P.intKind d = .i64 := by simp [Program.intKind, hd]
  have h := run_convert_int (P := P) w t d .u64 a hs (by rw [hk]; exact hd)
  rw [hk, wrap_in (show In64 a by unfold In64; omega)] at h
  simp [execOp, hx, h]
theorem y_shr1 {yt : TypeId} {k : IntKind} (hx : ev ρ x = .int .i64 a) (hy : ev ρ y = .int k 1) : Yield P w0 T ρ ⟨dst, .binOp .shr t x y yt, ty, pos, af, gd⟩ (.int .i64 (a / 2)) := fun _ _ => by
  simp [execOp, go_sem, hx, hy, shift_shr_i64 _ _ _ (show (0 : Int) ≤ 1 by decide) (show (1 : Int) ≤ 64 by decide)]
theorem y_shrU {yt : TypeId} {k : IntKind} (hx : ev ρ x = .int .u64 a) (hy : ev ρ y = .int k 1) : Yield P w0 T ρ ⟨dst, .binOp .shr t x y yt, ty, pos, af, gd⟩ (.int .u64 (a / 2)) := fun _ _ => by
  simp [execOp, go_sem, hx, hy, shift_shr_u64 _ _ _ (show (0 : Int) ≤ 1 by decide) (show (1 : Int) ≤ 64 by decide)]
theorem y_leqs {yt : TypeId} {a b : ByteArray} (hx : ev ρ x = .string a) (hy : ev ρ y = .string b) : Yield P w0 T ρ ⟨dst, .binOp .leq t x y yt, ty, pos, af, gd⟩ (.bool (Op.bytesLess a.toList b.toList || a.toList == b.toList)) := fun _ _ => by
  simp [execOp, go_sem, hx, hy]
theorem y_prefix {e : TypeId} {s len cap m : Nat} {a : Addr} {hi : Int} {kh : IntKind} (ht : P.underlying t = some (.slice e)) (hs : ∀ w, (sizeOf e).run P w = .ok s w)
    (hx : ev ρ x = .slice (some a) len cap) (hz : ev ρ y = .int kh hi) (h0 : 0 ≤ hi) (h2 : hi ≤ cap) (hm : hi.toNat = m) :
    Yield P w0 T ρ ⟨dst, .slice t x none (some y) none, ty, pos, af, gd⟩ (.slice (some a) m cap) := by
  have h := y_slice_hi (P := P) (w0 := w0) (T := T) (dst := dst) (ty := ty) (pos := pos) (af := af) (gd := gd) ht hs hx hz h0 h2
  subst hm
  have e1 : sliced (some a) 0 hi.toNat cap s = .slice (some a) hi.toNat cap := by
    unfold sliced
    simp [Addr.add]
  rwa [e1] at h
theorem mem_bytes {w : World} (hM : Mem w0 T w) (e : TypeId) (s : ByteArray) : Mem w0 (T ++ [brow w.heap.size s]) (Lib.bytesWorld w e s) := by
  have hb : Below w.heap.size w (Lib.bytesWorld w e s) := ⟨rfl, rfl, rfl, by rw [Lib.bytesWorld_size]; omega, fun k hk => Lib.bytesWorld_at_old w e s k hk⟩
  refine hM.add hb ?_ ?_
  · intro j hj
    rw [Lib.bytesWorld_cell w e s j (by simpa using hj)]
    have h9 : s.data.toList.getD j 0 = s.data.toList[j] := by rw [List.getD_eq_getElem?_getD, List.getElem?_eq_getElem hj]; rfl
    rw [h9]
  · intro b h9
    have hb' : b = w.heap.size := h9
    rw [Lib.bytesWorld_size]; omega
theorem gop_bytes {src dt e : TypeId} {d : Tmp} {s : ByteArray} {u : TypeDesc} (hs : P.underlying src = some u) (hd : P.underlying dt = some (.slice e)) (he : P.underlying e = some (.int .u8)) (hx : ev ρ x = .string s) (hlt : Nat.blt d n.n = true)
    (h : ∀ b c, w0.heap.size ≤ b → gops P n w0 full rest N (upd ρ d (.slice (some ⟨b, 0, none⟩) s.size c)) (T ++ [brow b s])) :
    gops P n w0 full (⟨some d, .convert src dt x, ty, pos, af, none⟩ :: rest) N ρ T :=
  gop_w (fun w hM => ⟨.slice (some ⟨w.heap.size, 0, none⟩) s.size (grownCap w s.size 0 e), Lib.bytesWorld w e s, by
      simp [execOp, hx, Lib.run_convert_string_bytes w src dt e s hs hd he], h _ _ hM.low.size _ (mem_bytes hM e s)⟩) rfl rfl hlt
end
theorem sb_eq_t {a b : ByteArray} (h : (a.toList == b.toList) = true) : a = b := by
  rw [beq_iff_eq, ByteArray.toList_eq, ByteArray.toList_eq, Array.toList_inj] at h
  exact ByteArray.ext h
theorem sb_ne_f {a b : ByteArray} (h : (a.toList == b.toList) = false) : a ≠ b := fun e => by
  subst e; simp at h
theorem linesF_sizes {l : List ByteArray} (h : linesF l = ⟨0, 0⟩) : ∀ s ∈ l, s.size ≤ 80 := by
  intro s hs
  have hl := linesF_len h
  rw [linesF, if_neg (by omega)] at h
  obtain ⟨j, hj, rfl⟩ := List.getElem_of_mem hs
  have h1 := scan_zero.1 h j hj
  unfold lineCode at h1
  split at h1
  · cases h1
  · omega
def slash : ByteArray := ⟨#[47]⟩
def hasP (s p : ByteArray) : Bool := Lib.hasPrefix s.data.toList p.data.toList
def relP (a b : ByteArray) : Bool := decide (a = b) || (hasP a (b ++ slash) || hasP b (a ++ slash))
structure FileP where
  path : ByteArray
  lines : List ByteArray
  deriving DecidableEq
structure FileC where
  pl : FileP
  A : Option Addr
  c : Nat
abbrev fileCells (f : FileC) : List Value := [.string f.pl.path, .slice f.A f.pl.lines.length f.c]
theorem wide_file : Wide fileCells 2 := fun _ => ⟨rfl, by simp [fileCells, Value.oneCell']⟩
abbrev fpl (fs : List FileC) : List FileP := fs.map FileC.pl
structure FileR (w : World) (lo : Nat) (f : FileC) : Prop where
  rd : Rdl w lo 1 strCells f.A f.pl.lines
  sb : SB f.A f.pl.lines.length f.c 16
structure TreeR (w : World) (lo : Nat) (A : Option Addr) (c : Nat) (fs : List FileC) : Prop where
  rd : Rdl w lo 2 fileCells A fs
  each : ∀ f ∈ fs, FileR w lo f
  sb : SB A fs.length c 40
theorem FileR.base {w0 w : World} {T : List Reg} {lo : Nat} {f : FileC} (h : FileR w0 lo f) (hM : Mem w0 T w) : FileR w lo f := ⟨h.rd.base hM, h.sb⟩
theorem TreeR.base {w0 w : World} {T : List Reg} {lo : Nat} {A : Option Addr} {c : Nat} {fs : List FileC} (h : TreeR w0 lo A c fs) (hM : Mem w0 T w) : TreeR w lo A c fs := ⟨h.rd.base hM, fun f hf => (h.each f hf).base hM, h.sb⟩
def clashF (path : ByteArray) (ex : Int) : Nat → List FileP → Bool
  | _, [] => false
  | i, f :: l => (decide ((i : Int) ≠ ex) && relP f.path path) || clashF path ex (i + 1) l
theorem clashF_yes {path : ByteArray} {ex : Int} : ∀ {l : List FileP} {i : Nat} (k : Nat) (hk : k < l.length), ((i + k : Nat) : Int) ≠ ex → relP l[k].path path = true → clashF path ex i l = true
  | [], _, _, hk, _, _ => absurd hk (Nat.not_lt_zero _)
  | f :: l, i, 0, _, h1, h2 => by
    rw [clashF, decide_eq_true (by simpa using h1), show relP f.path path = true from h2]; rfl
  | f :: l, i, k + 1, hk, h1, h2 => by
    rw [clashF, clashF_yes (l := l) (i := i + 1) k (by simpa using hk) (by rw [Nat.add_assoc, Nat.add_comm 1 k]; exact h1) (by simpa using h2), Bool.or_true]
theorem clashF_no {path : ByteArray} {ex : Int} : ∀ {l : List FileP} {i : Nat}, (∀ k (hk : k < l.length), ((i + k : Nat) : Int) ≠ ex → relP l[k].path path = false) → clashF path ex i l = false
  | [], _, _ => rfl
  | f :: l, i, h => by
    rw [clashF, clashF_no (l := l) (i := i + 1) (fun k hk h1 => by
      have h2 := h (k + 1) (by simpa using hk) (by rw [Nat.add_comm k 1, ← Nat.add_assoc]; exact h1)
      simpa using h2), Bool.or_false]
    by_cases h1 : (i : Int) ≠ ex
    · have h2 := h 0 (by simp) (by simpa using h1)
      rw [show relP f.path path = false from h2, Bool.and_false]
    · rw [decide_eq_false h1]; rfl
def ltS (a b : ByteArray) : Prop := a.toList < b.toList
instance (a b : ByteArray) : Decidable (ltS a b) := inferInstanceAs (Decidable (a.toList < b.toList))
def prevS (fs : List FileP) (i : Nat) : ByteArray := ((fs[i - 1]?).map FileP.path).getD ByteArray.empty
def treeC (fs : List FileP) (i : Nat) (f : FileP) : Int :=
  if ¬ pathOk f.path = true then 12 else if 0 < i ∧ ¬ ltS (prevS fs i) f.path then 5 else if clashF f.path (-1) 0 (fs.take i) = true then 7 else (linesF f.lines).code
def treeF (fs : List FileP) : Fault := if 24 < fs.length then ⟨2, -1⟩ else scan (fun i f => treeC fs i f) fs
structure VTree (fs : List FileP) : Prop where
  len : fs.length ≤ 24
  ok : ∀ f ∈ fs, pathOk f.path = true
  lines : ∀ f ∈ fs, linesF f.lines = ⟨0, 0⟩
  lt : ∀ i (h : i + 1 < fs.length), ltS fs[i].path fs[i + 1].path
theorem treeC_zero {fs : List FileP} {i : Nat} {f : FileP} (h : treeC fs i f = 0) : pathOk f.path = true ∧ (0 < i → ltS (prevS fs i) f.path) ∧ linesF f.lines = ⟨0, 0⟩ := by
  unfold treeC at h
  split at h
  · cases h
  · rename_i h1
    split at h
    · cases h
    · rename_i h2
      split at h
      · cases h
      · exact ⟨Classical.byContradiction h1, fun h3 => Classical.byContradiction fun h4 => h2 ⟨h3, h4⟩, linesF_code h⟩
theorem treeF_valid {fs : List FileP} (h : treeF fs = ⟨0, 0⟩) : VTree fs := by
  unfold treeF at h
  split at h
  · cases h
  · rename_i hl
    have hz := scan_zero.1 h
    refine ⟨by omega, fun f hf => ?_, fun f hf => ?_, fun i hi => ?_⟩
    · obtain ⟨j, hj, rfl⟩ := List.getElem_of_mem hf
      exact (treeC_zero (hz j hj)).1
    · obtain ⟨j, hj, rfl⟩ := List.getElem_of_mem hf
      exact (treeC_zero (hz j hj)).2.2
    · have h1 := (treeC_zero (hz (i + 1) hi)).2.1 (by omega)
      unfold prevS at h1
      rw [show i + 1 - 1 = i from rfl, List.getElem?_eq_getElem (by omega)] at h1
      exact h1
theorem ltS_trans {a b c : ByteArray} (h1 : ltS a b) (h2 : ltS b c) : ltS a c := List.lt_trans h1 h2
theorem ltS_irrefl (a : ByteArray) : ¬ ltS a a := List.lt_irrefl _
theorem VTree.mono {fs : List FileP} (v : VTree fs) : ∀ (i j : Nat) (_ : i < j) (hj : j < fs.length), ltS (fs[i]'(by omega)).path fs[j].path := by
  intro i j hij
  induction j with
  | zero => omega
  | succ j ih =>
    intro hj
    rcases Nat.lt_or_ge i j with h1 | h1
    · exact ltS_trans (ih h1 (by omega)) (v.lt j hj)
    · obtain rfl : i = j := by omega
      exact v.lt i hj
end Go.Cf
namespace Go.Cf
open Go.RowKit
def readP : Bs → List Int × Bool
  | [] => ([], true)
  | [_] => ([], false)
  | a :: d :: r => if a = 32 ∧ 48 ≤ d.toNat ∧ d.toNat ≤ 57 then (((d.toNat : Int) - 48) :: (readP r).1, (readP r).2) else ([], false)
theorem drop_bs {s : ByteArray} {i : Nat} (h : i < s.size) : ∃ b, (bsOf s).drop i = b :: (bsOf s).drop (i + 1) ∧ byteAt s i = b.toNat := by
  have hl : i < (bsOf s).length := by rw [bsOf_len]; exact h
  exact ⟨(bsOf s)[i], List.drop_eq_getElem_cons hl, (byte_of (s := s) (List.getElem?_eq_getElem hl)).2⟩
theorem refR_next {s : ByteArray} {i : Nat} (hi : i + 1 < s.size) (h : byteAt s i = 32) (h0 : 48 ≤ byteAt s (i + 1)) (h1 : byteAt s (i + 1) ≤ 57) : readP ((bsOf s).drop i) = (((byteAt s (i + 1) : Int) - 48) :: (readP ((bsOf s).drop (i + 2))).1, (readP ((bsOf s).drop (i + 2))).2) := by
  obtain ⟨b, h2, h3⟩ := drop_bs (show i < s.size by omega)
  obtain ⟨d, h4, h5⟩ := drop_bs hi
  rw [h2, h4, readP, if_pos ⟨UInt8.toNat_inj.1 (by rw [← h3, h]; rfl), by omega, by omega⟩, h5]
structure ReadIn (s : ByteArray) (n i : Nat) (us : List Int) : Prop where
  all : (readP ((bsOf s).drop n)).1 = us ++ (readP ((bsOf s).drop i)).1
  ok : (readP ((bsOf s).drop n)).2 = (readP ((bsOf s).drop i)).2
theorem ReadIn.zero (s : ByteArray) (n : Nat) : ReadIn s n n [] := ⟨rfl, rfl⟩
theorem ReadIn.next {s : ByteArray} {n i : Nat} {us : List Int} (h : ReadIn s n i us) (hi : i + 1 < s.size) (hb : byteAt s i = 32) (h0 : 48 ≤ byteAt s (i + 1)) (h1 : byteAt s (i + 1) ≤ 57) : ReadIn s n (i + 2) (us ++ [(byteAt s (i + 1) : Int) - 48]) := by
  have e := refR_next hi hb h0 h1
  exact ⟨by rw [h.all, e]; simp, by rw [h.ok, e]⟩
structure GroupC where
  pl : List Int
  A : Option Addr
  c : Nat
structure GrR (w : World) (lo : Nat) (a : GroupC) : Prop where
  rd : Rdl w lo 1 intCells a.A a.pl
  len : a.pl.length ≤ a.c
  max : a.c ≤ maxLen
theorem GrR.mono {w : World} {lo lo' : Nat} {a : GroupC} (h : GrR w lo a) (hl : lo' ≤ lo) : GrR w lo' a := ⟨h.rd.mono hl, h.len, h.max⟩
theorem rdl_take {α : Type} {w : World} {lo size : Nat} {f : α → List Value} {A : Option Addr} {l : List α} (h : Rdl w lo size f A l) (k : Nat) : Rdl w lo size f A (l.take k) := fun hn => by
  have hn' : 0 < l.length := by
    rw [List.length_take] at hn; omega
  obtain ⟨ad, h1, h2, h3⟩ := h hn'
  refine ⟨ad, h1, h2, fun j x hx => h3 j x ?_⟩
  rw [List.getElem?_take] at hx
  split at hx
  · exact hx
  · cases hx
def hasI (l : List Int) (x : Int) : Bool := l.any (fun y => decide (x = y))
def meetsB (g U : List Int) : Bool := g.any (fun x => hasI U x)
theorem hasI_mem {l : List Int} {x : Int} : hasI l x = true ↔ x ∈ l := by
  simp [hasI]
def badPath (_ : Nat) (p : ByteArray) : Int := if pathOk p = true then 0 else 12
def pathsF (ps : List ByteArray) : Fault := if (scan badPath ps).code = 0 then ⟨0, 0⟩ else ⟨12, -3 - (scan badPath ps).index⟩
def reqF (rs : List Rule) (ps : List ByteArray) : Fault := if rulesF rs ≠ ⟨0, 0⟩ then rulesF rs else if 24 < ps.length then ⟨2, -2⟩ else pathsF ps
theorem pathsF_ok {ps : List ByteArray} (h : ∀ j (h : j < ps.length), pathOk ps[j] = true) : pathsF ps = ⟨0, 0⟩ := by
  have h1 : scan badPath ps = ⟨0, 0⟩ := scan_ok fun j hj => by rw [badPath, if_pos (h j hj)]
  rw [pathsF, h1]; rfl
end Go.Cf
namespace Go.Cf
open Go.RowKit
def idxP {α : Type} (p : α → Bool) (l : List α) : Int := if l.any p = true then ((l.findIdx p : Nat) : Int) else -1
theorem idxP_hit {α : Type} {p : α → Bool} {l : List α} {k : Nat} (hk : k < l.length) (h : ∀ j (hj : j < l.length), j < k → p l[j] = false) (hp : p l[k] = true) : idxP p l = (k : Int) := by
  have h1 : l.any p = true := List.any_eq_true.2 ⟨_, List.getElem_mem hk, hp⟩
  rw [idxP, if_pos h1, (List.findIdx_eq hk).2 ⟨hp, fun j hj => h j (by omega) hj⟩]
theorem idxP_none {α : Type} {p : α → Bool} {l : List α} (h : ∀ j (hj : j < l.length), p l[j] = false) : idxP p l = -1 := by
  have h1 : l.any p = false := by
    rw [List.any_eq_false]
    intro x hx
    obtain ⟨j, hj, rfl⟩ := List.getElem_of_mem hx
    simp [h j hj]
  rw [idxP, h1, if_neg (by simp)]
theorem idxP_any {α : Type} (p : α → Bool) (l : List α) : decide ((0 : Int) ≤ idxP p l) = l.any p := by
  unfold idxP
  cases l.any p with
  | true => rw [if_pos rfl]; exact decide_eq_true (by omega)
  | false => rw [if_neg (by simp)]; rfl
theorem hasI_yes {b : List Int} {j : Nat} {x : Int} (h : j < b.length) (e : x = b[j]) : hasI b x = true := hasI_mem.2 (by rw [e]; exact List.getElem_mem h)
theorem hasI_no {b : List Int} {x : Int} (h : ∀ j (hj : j < b.length), x ≠ b[j]) : hasI b x = false := by
  rw [← Bool.not_eq_true, hasI_mem]
  intro hx
  obtain ⟨j, hj, e⟩ := List.getElem_of_mem hx
  exact h j hj e.symm
theorem meetsB_yes {g U : List Int} {k : Nat} (h : k < g.length) (e : hasI U g[k] = true) : meetsB g U = true := List.any_eq_true.2 ⟨_, List.getElem_mem h, e⟩
theorem meetsB_no {g U : List Int} (h : ∀ k (hk : k < g.length), hasI U g[k] = false) : meetsB g U = false := by
  unfold meetsB
  rw [List.any_eq_false]
  intro x hx
  obtain ⟨j, hj, rfl⟩ := List.getElem_of_mem hx
  simp [h j hj]
def ownV (rs : List RuleC) (path : ByteArray) : Value := match rs.reverse.find? (fun a => matchR path a.pl) with
  | some a => .slice a.A a.pl.users.length a.c
  | none => .slice none 0 0
theorem ownV_next {rs : List RuleC} {path : ByteArray} {k : Nat} (h : k < rs.length) : ownV (rs.take (k + 1)) path = if matchR path rs[k].pl = true then .slice rs[k].A rs[k].pl.users.length rs[k].c else ownV (rs.take k) path := by
  rw [List.take_succ_eq_append_getElem h, ownV, List.reverse_append, List.reverse_singleton, List.singleton_append, List.find?_cons]
  cases matchR path rs[k].pl <;> rfl
theorem ownV_read {w : World} {lo : Nat} {A : Option Addr} {c : Nat} {rs : List RuleC} (h : RulesR w lo A c rs) (path : ByteArray) :
    ∃ B d, ownV rs path = .slice B (findU (rls rs) path).length d ∧ GrR w lo ⟨findU (rls rs) path, B, d⟩ := by
  have e : findU (rls rs) path = ((rs.reverse.find? (fun a => matchR path a.pl)).map (fun a => a.pl.users)).getD [] := by
    unfold findU
    rw [← List.map_reverse, List.find?_map, Option.map_map]
    rfl
  unfold ownV
  rw [e]
  cases hf : rs.reverse.find? (fun a => matchR path a.pl) with
  | none => exact ⟨none, 0, rfl, Rdl.nil, Nat.le_refl _, Nat.zero_le _⟩
  | some a =>
    have ha : a ∈ rs := List.mem_reverse.1 (List.mem_of_find?_eq_some hf)
    have hr := h.each a ha
    exact ⟨a.A, a.c, rfl, hr.rd, hr.sb.len, hr.sb.max⟩
end Go.Cf
namespace Go.Cf
open Go.RowKit
theorem Mem.cell {w0 w : World} {T : List Reg} (hM : Mem w0 T w) (i : Nat) {b off : Nat} {cs : Array Value} {e : TypeId} {fz : Nat × Nat} {v : Value} (hi : T[i]? = some (box b (.cells cs e fz))) (h : cs[off]? = some v) : w.cell? ⟨b, off, none⟩ = some v := cell_box i hi h w hM
end Go.Cf
namespace Go.Cf
theorem of_ok {rs : List Rule} {p : ByteArray} (h : rulesF rs = ⟨0, 0⟩) (hp : pathOk p = true) : ofF rs p = ⟨0, 0⟩ ∧ ofV rs p = findU rs p := by
  constructor
  · rw [ofF, if_neg (fun h1 => h1 h), hp]; rfl
  · rw [ofV, if_pos ⟨h, hp⟩]
end Go.Cf
namespace Go.Cf
open Go.RowKit
def Reading (text : List ByteArray) (k : Nat) (p : Fault) (l : List Rule) : Prop :=
  (p = ⟨0, 0⟩ ∧ linesF text = ⟨0, 0⟩ ∧ (∀ j (h : j < text.length), j < k → badL text[j] = 0) ∧ l = readL (text.take k)) ∨ (p.code ≠ 0 ∧ p = fileF text)
section
variable {text : List ByteArray} {k : Nat} {p : Fault} {l : List Rule}
theorem Reading.zero (text : List ByteArray) : Reading text 0 (linesF text) [] := by
  by_cases h : linesF text = ⟨0, 0⟩
  · exact .inl ⟨h, h, fun _ _ h => absurd h (by omega), rfl⟩
  · exact .inr ⟨fun h1 => h (linesF_code h1), by rw [fileF, if_pos h]⟩
theorem Reading.good (h : Reading text k p l) (hp : p.code = 0) : p = ⟨0, 0⟩ ∧ linesF text = ⟨0, 0⟩ ∧ (∀ j (h : j < text.length), j < k → badL text[j] = 0) ∧ l = readL (text.take k) := by
  rcases h with h | h
  · exact h
  · exact absurd hp h.1
theorem Reading.skip (h : Reading text k p l) (hp : p.code = 0) (hk : k < text.length) (hs : skipL text[k] = true) : Reading text (k + 1) p l := by
  obtain ⟨h1, h2, h3, h4⟩ := h.good hp
  refine .inl ⟨h1, h2, fun j hj hjk => ?_, by rw [readL_take hk, hs]; simpa using h4⟩
  rcases Nat.lt_succ_iff_lt_or_eq.1 hjk with h5 | rfl
  · exact h3 j hj h5
  · rw [badL, if_pos hs]
theorem Reading.done2 (h : Reading text k p l) (hst : ¬ (k < text.length ∧ p.code = 0)) (hp : p.code = 0) (hl : ¬ 20 < l.length) : fileF text = p ∧ l = fileV text := by
  obtain ⟨h1, h2, h3, h4⟩ := h.good hp
  have hk : ¬ k < text.length := fun h5 => hst ⟨h5, hp⟩
  have hsc : scan (fun _ s => badL s) text = ⟨0, 0⟩ := scan_ok fun j hj => h3 j hj (by omega)
  rw [List.take_of_length_le (by omega)] at h4
  have hF : fileF text = ⟨0, 0⟩ := by rw [fileF, if_neg (fun h5 => h5 h2), hsc, if_neg (fun h5 => h5 rfl), if_neg (by rw [← h4]; exact hl)]
  exact ⟨hF.trans h1.symm, by rw [fileV, if_pos hF, h4]⟩
theorem Reading.done3 (h : Reading text k p l) (hp : p.code ≠ 0) : fileF text = p := by
  rcases h with h | h
  · exact absurd (by rw [h.1]) hp
  · exact h.2.symm
theorem Reading.done (h : Reading text k p l) (hst : ¬ (k < text.length ∧ p.code = 0)) (hl : ¬ (p.code = 0 ∧ 20 < l.length)) : fileF text = p ∧ (p.code = 0 → l = fileV text) := by
  by_cases hp : p.code = 0
  · have := h.done2 hst hp (fun h1 => hl ⟨hp, h1⟩)
    exact ⟨this.1, fun _ => this.2⟩
  · exact ⟨h.done3 hp, fun h1 => absurd h1 hp⟩
end
def capF (ps : List ByteArray) : Fault := if 24 < ps.length then ⟨2, -2⟩ else ⟨0, 0⟩
def Checking (rs : List Rule) (ps : List ByteArray) (k : Nat) (q : Fault) : Prop :=
  (q = ⟨0, 0⟩ ∧ ps.length ≤ 24 ∧ ∀ j (h : j < ps.length), j < k → pathOk ps[j] = true) ∨ (q.code ≠ 0 ∧ q = reqF rs ps)
section
variable {rs : List Rule} {ps : List ByteArray} {k : Nat} {q : Fault}
theorem Checking.zero (h : rulesF rs = ⟨0, 0⟩) : Checking rs ps 0 (capF ps) := by
  unfold capF
  split
  · rename_i h1
    exact .inr ⟨by decide, by rw [reqF, if_neg (fun h2 => h2 h), if_pos h1]⟩
  · exact .inl ⟨rfl, by omega, fun _ _ h => absurd h (by omega)⟩
theorem Checking.good (h : Checking rs ps k q) (hq : q.code = 0) : q = ⟨0, 0⟩ ∧ ps.length ≤ 24 ∧ ∀ j (h : j < ps.length), j < k → pathOk ps[j] = true := by
  rcases h with h | h
  · exact h
  · exact absurd hq h.1
theorem Checking.ok (h : Checking rs ps k q) (hq : q.code = 0) (hk : k < ps.length) (hp : pathOk ps[k] = true) : Checking rs ps (k + 1) q := by
  obtain ⟨h1, h2, h3⟩ := h.good hq
  refine .inl ⟨h1, h2, fun j hj hjk => ?_⟩
  rcases Nat.lt_succ_iff_lt_or_eq.1 hjk with h5 | rfl
  · exact h3 j hj h5
  · exact hp
theorem Checking.stop (h : Checking rs ps k q) (hr : rulesF rs = ⟨0, 0⟩) (hst : ¬ (k < ps.length ∧ q.code = 0)) : reqF rs ps = q := by
  rcases h with h | h
  · obtain ⟨h1, h2, h3⟩ := h
    have hk : ¬ k < ps.length := fun h6 => hst ⟨h6, by rw [h1]⟩
    rw [reqF, if_neg (fun h5 => h5 hr), if_neg (by omega), pathsF_ok (fun j hj => h3 j hj (by omega)), h1]
  · exact h.2.symm
end
end Go.Cf
namespace Go.Cf
open Go.RowKit
theorem ltS_iff (a b : ByteArray) : ltS a b ↔ a.data.toList < b.data.toList := by unfold ltS; rw [ByteArray.toList_eq, ByteArray.toList_eq]
theorem cmpB_lt : ∀ a b : List UInt8, Lib.compareBytes a b < 0 ↔ a < b
  | [], [] => by simp [Lib.compareBytes]
  | [], _ :: _ => by simp [Lib.compareBytes]
  | _ :: _, [] => by simp [Lib.compareBytes]
  | a :: x, b :: y => by
    rw [Lib.compareBytes, List.cons_lt_cons_iff]
    by_cases h1 : a < b
    · simp [h1]
    · by_cases h2 : b < a
      · have h3 : a ≠ b := fun h => by subst h; exact h1 h2
        simp [h1, h2, h3]
      · have h3 : a = b := UInt8.le_antisymm (UInt8.not_lt.1 h2) (UInt8.not_lt.1 h1)
        subst h3
        simp [h1, cmpB_lt x y]
theorem cmpB_eq : ∀ a b : List UInt8, Lib.compareBytes a b = 0 ↔ a = b
  | [], [] => by simp [Lib.compareBytes]
  | [], _ :: _ => by simp [Lib.compareBytes]
  | _ :: _, [] => by simp [Lib.compareBytes]
  | a :: x, b :: y => by
    rw [Lib.compareBytes]
    by_cases h1 : a < b
    · have h3 : a ≠ b := fun h => by subst h; exact UInt8.lt_irrefl _ h1
      simp [h1, h3]
    · by_cases h2 : b < a
      · have h3 : a ≠ b := fun h => by subst h; exact h1 h2
        simp [h1, h2, h3]
      · have h3 : a = b := UInt8.le_antisymm (UInt8.not_lt.1 h2) (UInt8.not_lt.1 h1)
        subst h3
        simp [h1, cmpB_eq x y]
def cmpS (a b : ByteArray) : Int := Lib.compareBytes a.data.toList b.data.toList
theorem cmpS_lt {a b : ByteArray} : cmpS a b < 0 ↔ ltS a b := by rw [ltS_iff]; exact cmpB_lt _ _
theorem cmpS_eq {a b : ByteArray} : cmpS a b = 0 ↔ a = b := by
  unfold cmpS
  rw [cmpB_eq]
  constructor
  · intro h; exact ByteArray.ext (Array.toList_inj.1 h)
  · intro h; rw [h]
def ob (l : List UInt8) : ByteArray := ⟨l.toArray⟩
theorem ob_bl (s : ByteArray) : ob s.data.toList = s := rfl
def sortL (l : List (List UInt8)) : List (List UInt8) := l.mergeSort fun x y => decide (x ≤ y)
def leafS (l : List ByteArray) : List ByteArray := (Lib.compact (sortL (l.map fun s => s.data.toList))).map ob
theorem sortL_len (l : List (List UInt8)) : (sortL l).length = l.length := by simp [sortL]
theorem sortL_mem {l : List (List UInt8)} {x : List UInt8} : x ∈ sortL l ↔ x ∈ l := by simp [sortL, List.mem_mergeSort]
theorem sortL_pair (l : List (List UInt8)) : (sortL l).Pairwise (· ≤ ·) := by
  have h := List.pairwise_mergeSort (le := fun x y : List UInt8 => decide (x ≤ y)) (fun a b c h1 h2 => by simp only [decide_eq_true_eq] at *; exact List.le_trans h1 h2) (fun a b => by simp only [Bool.or_eq_true, decide_eq_true_eq]; exact List.le_total a b) l
  exact h.imp (fun h => by simpa using h)
theorem compactL_sub {l : List (List UInt8)} {x : List UInt8} (h : x ∈ Lib.compact l) : x ∈ l := by
  unfold Lib.compact Lib.compactUpTo at h
  obtain ⟨j, hj, rfl⟩ := List.mem_map.1 h
  have hj' : j < l.length := List.mem_range.1 (List.mem_filter.1 hj).1
  simp [hj']
theorem compactL_all {l : List (List UInt8)} {x : List UInt8} (h : x ∈ l) : x ∈ Lib.compact l := by
  obtain ⟨j, hj, hx⟩ := List.getElem_of_mem h
  have key : ∀ n j, j ≤ n → ∀ (hj : j < l.length), l[j] = x → ∃ i, ∃ hi : i < l.length, l[i] = x ∧ Lib.keeps l.toArray i = true := by
    intro n
    induction n with
    | zero => intro j h0 hj hx; obtain rfl : j = 0 := by omega
              exact ⟨0, hj, hx, Lib.keeps_lt_one _ 0 (by omega)⟩
    | succ n ih =>
      intro j h0 hj hx
      rcases Nat.eq_zero_or_pos j with h1 | h1
      · subst h1; exact ⟨0, hj, hx, Lib.keeps_lt_one _ 0 (by omega)⟩
      · by_cases h2 : l[j - 1] = x
        · exact ih (j - 1) (by omega) (by omega) h2
        · refine ⟨j, hj, hx, ?_⟩
          have e2 : l.toArray[j]! = l[j] := by simp [hj]
          have e3 : l.toArray[j - 1]! = l[j - 1] := by simp [show j - 1 < l.length by omega]
          unfold Lib.keeps
          rw [e2, e3, hx]
          simp [Ne.symm h2]
  obtain ⟨i, hi, hxi, hk⟩ := key j j (Nat.le_refl _) hj hx
  unfold Lib.compact Lib.compactUpTo
  refine List.mem_map.2 ⟨i, List.mem_filter.2 ⟨List.mem_range.2 hi, hk⟩, ?_⟩
  simp [hi, hxi]
theorem compactL_inc {l : List (List UInt8)} (h : l.Pairwise (· ≤ ·)) : (Lib.compact l).Pairwise (· < ·) := by
  unfold Lib.compact Lib.compactUpTo
  rw [List.pairwise_map, List.pairwise_filter]
  refine (List.pairwise_lt_range).imp_of_mem (S := fun i j => Lib.keeps l.toArray i = true → Lib.keeps l.toArray j = true → l.toArray[i]! < l.toArray[j]!) ?_
  intro i j hi hj hij _ hk
  have hj' : j < l.length := List.mem_range.1 hj
  have hk' : j = 0 ∨ l.toArray[j]! ≠ l.toArray[j - 1]! := by simpa [Lib.keeps] using hk
  rcases hk' with h0 | hne
  · omega
  have hp := List.pairwise_iff_getElem.1 h
  have e1 : l.toArray[i]! = l[i] := by simp [show i < l.length by omega]
  have e2 : l.toArray[j]! = l[j] := by simp [hj']
  have e3 : l.toArray[j - 1]! = l[j - 1] := by simp [show j - 1 < l.length by omega]
  have h2 := hp (j - 1) j (by omega) hj' (by omega)
  have h1 : l[i] ≤ l[j - 1] := by
    rcases Nat.lt_or_ge i (j - 1) with h3 | h3
    · exact hp i (j - 1) (by omega) (by omega) h3
    · have : i = j - 1 := by omega
      subst this; exact List.le_refl _
  rw [e1, e2]
  rw [e2, e3] at hne
  have h3 := List.le_trans h1 h2
  have h4 : ¬ l[j] ≤ l[i] := fun h5 => hne (List.le_antisymm (List.le_trans h5 h1) h2)
  exact List.not_le.1 h4
theorem leafS_mem {l : List ByteArray} {x : ByteArray} : x ∈ leafS l ↔ x ∈ l := by
  unfold leafS
  constructor
  · intro h
    obtain ⟨y, hy, rfl⟩ := List.mem_map.1 h
    obtain ⟨z, hz, rfl⟩ := List.mem_map.1 (sortL_mem.1 (compactL_sub hy))
    exact hz
  · intro h
    exact List.mem_map.2 ⟨x.data.toList, compactL_all (sortL_mem.2 (List.mem_map.2 ⟨x, h, rfl⟩)), ob_bl x⟩
theorem leafS_pair (l : List ByteArray) : (leafS l).Pairwise ltS := by
  unfold leafS
  rw [List.pairwise_map]
  exact (compactL_inc (sortL_pair _)).imp (fun h => (ltS_iff _ _).2 h)
theorem leafS_len (l : List ByteArray) : (leafS l).length ≤ l.length := by
  unfold leafS
  have h := Lib.compact_length_le (sortL (l.map fun s => s.data.toList))
  rw [sortL_len] at h
  simpa using h
theorem inc_ext : ∀ {a b : List ByteArray}, a.Pairwise ltS → b.Pairwise ltS → (∀ x, x ∈ a ↔ x ∈ b) → a = b
  | [], [], _, _, _ => rfl
  | [], y :: b, _, _, h => absurd ((h y).2 (by simp)) (by simp)
  | x :: a, [], _, _, h => absurd ((h x).1 (by simp)) (by simp)
  | x :: a, y :: b, ha, hb, h => by
    obtain ⟨ha1, ha2⟩ := List.pairwise_cons.1 ha
    obtain ⟨hb1, hb2⟩ := List.pairwise_cons.1 hb
    have hxy : x = y := by
      rcases List.mem_cons.1 ((h x).1 (by simp)) with h1 | h1
      · exact h1
      · rcases List.mem_cons.1 ((h y).2 (by simp)) with h2 | h2
        · exact h2.symm
        · exact absurd (ltS_trans (hb1 x h1) (ha1 y h2)) (ltS_irrefl _)
    subst hxy
    congr 1
    refine inc_ext ha2 hb2 fun z => ⟨fun hz => ?_, fun hz => ?_⟩
    · rcases List.mem_cons.1 ((h z).1 (by simp [hz])) with h1 | h1
      · subst h1; exact absurd (ha1 z hz) (ltS_irrefl _)
      · exact h1
    · rcases List.mem_cons.1 ((h z).2 (by simp [hz])) with h1 | h1
      · subst h1; exact absurd (hb1 z hz) (ltS_irrefl _)
      · exact h1
structure Appr where
  user : Int
  path : ByteArray
  dig : Int
abbrev apprCells (a : Appr) : List Value := [.int .i64 a.user, .string a.path, .int .i64 a.dig]
theorem wide_appr : Wide apprCells 3 := fun _ => ⟨rfl, by simp [apprCells, Value.oneCell']⟩
def apprCode (a : Appr) : Int := if a.user < 0 ∨ 7 < a.user ∨ a.dig < -1 ∨ dMod ≤ a.dig then 3 else if pathOk a.path = true then 0 else 12
def apprF (l : List Appr) : Fault := if 40 < l.length then ⟨2, -1⟩ else scan (fun _ a => apprCode a) l
def findP (fs : List FileP) (p : ByteArray) : Option FileP := fs.find? fun f => decide (f.path = p)
def descP (fs : List FileP) (p : ByteArray) : Int := match findP fs p with | some f => strD f.lines | none => -1
def okPath (_ : Nat) (p : ByteArray) : Int := if pathOk p = true then 0 else 12
def approveF (fs : List FileP) (u : Int) (ps : List ByteArray) : Fault :=
  if treeF fs ≠ ⟨0, 0⟩ then secondF (treeF fs) (-2) else if u < 0 ∨ 7 < u then ⟨3, -3⟩ else if 24 < ps.length then ⟨2, -1⟩ else scan okPath ps
def approveL (fs : List FileP) (u : Int) (ps : List ByteArray) : List Appr := ps.map fun p => ⟨u, p, descP fs p⟩
def approveV (fs : List FileP) (u : Int) (ps : List ByteArray) : List Appr := if approveF fs u ps = ⟨0, 0⟩ then approveL fs u ps else []
def validF (l : List Appr) (fs : List FileP) : Fault := if apprF l ≠ ⟨0, 0⟩ then apprF l else secondF (treeF fs) (-2)
def validL (l : List Appr) (fs : List FileP) : List Bool := l.map fun a => decide (a.dig = descP fs a.path)
def validV (l : List Appr) (fs : List FileP) : List Bool := if validF l fs = ⟨0, 0⟩ then validL l fs else []
def diffAt (a b : List FileP) (p : ByteArray) : Bool := match findP a p, findP b p with | some f, some g => !decide (f.lines = g.lines) | _, _ => true
def chgL (a b : List FileP) : List ByteArray := leafS (((a ++ b).map FileP.path).filter (diffAt a b))
def coverB (own : List Int) (p : ByteArray) (fs : List FileP) (a : Appr) : Bool := decide (a.dig = descP fs a.path) && (decide (a.path = p) && hasI own a.user)
def doneB (rs : List Rule) (l : List Appr) (fs : List FileP) (p : ByteArray) : Bool := decide ((findU rs p).length = 0) || l.any (coverB (findU rs p) p fs)
def missF (rs : List Rule) (l : List Appr) (base tree : List FileP) : Fault :=
  if validF l tree ≠ ⟨0, 0⟩ then validF l tree else if treeF base ≠ ⟨0, 0⟩ then secondF (treeF base) (-3) else secondF (rulesF rs) (-4)
def missL (rs : List Rule) (l : List Appr) (base tree : List FileP) : List ByteArray := (chgL base tree).filter fun p => !doneB rs l tree p
def missV (rs : List Rule) (l : List Appr) (base tree : List FileP) : List ByteArray := if missF rs l base tree = ⟨0, 0⟩ then missL rs l base tree else []
theorem findP_some {fs : List FileP} {p : ByteArray} {f : FileP} (h : findP fs p = some f) : f ∈ fs ∧ f.path = p := ⟨List.mem_of_find?_eq_some h, by simpa using List.find?_some h⟩
theorem findP_none {fs : List FileP} {p : ByteArray} : findP fs p = none ↔ ∀ f ∈ fs, f.path ≠ p := by
  unfold findP
  rw [List.find?_eq_none]
  simp
theorem findP_at {fs : List FileP} (v : VTree fs) {k : Nat} (hk : k < fs.length) : findP fs fs[k].path = some fs[k] := by
  cases h : findP fs fs[k].path with
  | none => exact absurd rfl (findP_none.1 h _ (List.getElem_mem hk))
  | some g =>
    obtain ⟨hg, hp⟩ := findP_some h
    obtain ⟨j, hj, rfl⟩ := List.getElem_of_mem hg
    rcases Nat.lt_trichotomy j k with h1 | h1 | h1
    · have := v.mono j k h1 hk; rw [hp] at this; exact absurd this (ltS_irrefl _)
    · subst h1; rfl
    · have := v.mono k j h1 hj; rw [hp] at this; exact absurd this (ltS_irrefl _)
end Go.Cf
namespace Go.Cf
open Go.RowKit
theorem bs_left {fs : List FileC} {path : ByteArray} {h : Nat} (v : VTree (fpl fs)) (hh : h < fs.length) (hl : ltS fs[h].pl.path path) : ∀ m (hm : m < fs.length), m ≤ h → ltS fs[m].pl.path path := fun m hm hmh => by
  rcases Nat.lt_or_ge m h with h1 | h1
  · have h2 := v.mono m h h1 (by simpa using hh)
    rw [List.getElem_map, List.getElem_map] at h2
    exact ltS_trans h2 hl
  · obtain rfl : m = h := by omega
    exact hl
theorem bs_right {fs : List FileC} {path : ByteArray} {h : Nat} (v : VTree (fpl fs)) (hh : h < fs.length) (hl : ¬ ltS fs[h].pl.path path) : ∀ m (hm : m < fs.length), h ≤ m → ¬ ltS fs[m].pl.path path := fun m hm hmh h9 => by
  rcases Nat.lt_or_ge h m with h1 | h1
  · have h2 := v.mono h m h1 (by simpa using hm)
    rw [List.getElem_map, List.getElem_map] at h2
    exact hl (ltS_trans h2 h9)
  · obtain rfl : m = h := by omega
    exact hl h9
theorem bs_none {fs : List FileC} {path : ByteArray} {i : Nat} (v : VTree (fpl fs)) (hlo : ∀ m (h : m < fs.length), m < i → ltS fs[m].pl.path path) (hhi : ∀ m (h : m < fs.length), i ≤ m → ¬ ltS fs[m].pl.path path)
    (hne : ∀ h : i < fs.length, fs[i].pl.path ≠ path) {f : FileC} (hf : f ∈ fs) : f.pl.path ≠ path := by
  obtain ⟨m, hm, rfl⟩ := List.getElem_of_mem hf
  intro h9
  rcases Nat.lt_trichotomy m i with h1 | h1 | h1
  · have := hlo m hm h1; rw [h9] at this; exact ltS_irrefl _ this
  · subst h1; exact hne hm h9
  · have h2 := v.mono i m h1 (by simpa using hm)
    rw [List.getElem_map, List.getElem_map, h9] at h2
    exact hhi i (by omega) (Nat.le_refl _) h2
theorem leS_t {a b p : ByteArray} (hp : p = b) (h : (Op.bytesLess a.toList b.toList || a.toList == b.toList) = true) : ¬ ltS p a := by
  subst hp
  intro h9
  unfold ltS at h9
  rw [Proofs.bytesLess_eq] at h
  rcases Bool.or_eq_true_iff.1 h with h1 | h1
  · exact List.lt_irrefl _ (List.lt_trans h9 (of_decide_eq_true h1))
  · rw [sb_eq_t h1] at h9; exact List.lt_irrefl _ h9
theorem leS_f {a b p : ByteArray} (hp : p = b) (h : (Op.bytesLess a.toList b.toList || a.toList == b.toList) = false) : ltS p a := by
  subst hp
  rw [Proofs.bytesLess_eq] at h
  obtain ⟨h1, h2⟩ := Bool.or_eq_false_iff.1 h
  have h3 := of_decide_eq_false h1
  unfold ltS
  have h4 := List.not_lt.1 h3
  rcases List.le_iff_lt_or_eq.1 h4 with h5 | h5
  · exact h5
  · rw [h5] at h2; simp at h2
theorem sec_zero {f : Fault} {i : Int} (h : secondF f i = ⟨0, 0⟩) : f.code = 0 := by
  unfold secondF at h
  split at h
  · exact congrArg Fault.code h
  · rename_i h1; rw [Classical.not_not.1 h1]
theorem sec_ne {f : Fault} {i : Int} (h : secondF f i ≠ ⟨0, 0⟩) : f ≠ ⟨0, 0⟩ := fun h1 => h (by rw [secondF, if_neg (fun h2 => h2 h1)])
theorem sec_code {l : List ByteArray} {i : Int} (h : secondF (linesF l) i ≠ ⟨0, 0⟩) : (linesF l).code ≠ 0 := fun h1 => sec_ne h (linesF_code h1)
theorem tree_at {fs : List FileC} {k : Nat} {n : Int} (hk : k < fs.length) (hz : ∀ j (h : j < fs.length), j < k → treeC (fpl fs) j fs[j].pl = 0) (hC : treeC (fpl fs) k fs[k].pl = n) (hn : n ≠ 0) : scan (fun i f => treeC (fpl fs) i f) (fpl fs) = ⟨n, k⟩ := by
  have h1 := scan_at (f := fun i f => treeC (fpl fs) i f) (l := fpl fs) (k := k) (by simpa using hk) (fun j h hj => by rw [List.getElem_map]; exact hz j (by simpa using h) hj) (by rw [List.getElem_map, hC]; exact hn)
  rw [h1, List.getElem_map, hC]
end Go.Cf
namespace Go.Cf
open Go.RowKit
theorem desc_none {fs : List FileC} {path : ByteArray} (h : ∀ f ∈ fs, f.pl.path ≠ path) : descP (fpl fs) path = -1 := by
  have h1 : findP (fpl fs) path = none := findP_none.2 fun f hf => by
    obtain ⟨g, hg, rfl⟩ := List.mem_map.1 hf
    exact h g hg
  rw [descP, h1]
theorem desc_at {fs : List FileC} {path : ByteArray} {k : Nat} (v : VTree (fpl fs)) (hk : k < fs.length) (hp : fs[k].pl.path = path) : descP (fpl fs) path = strD fs[k].pl.lines := by
  have h1 := findP_at v (k := k) (by simpa using hk)
  rw [List.getElem_map, hp] at h1
  rw [descP, h1]
theorem sec_ok {f : Fault} {i : Int} (h : secondF f i = ⟨0, 0⟩) (hi : i ≠ 0) : f = ⟨0, 0⟩ := by
  unfold secondF at h
  split at h
  · exact absurd (congrArg Fault.index h) hi
  · rename_i h1; exact Classical.not_not.1 h1
theorem approveL_succ {fs : List FileP} {u : Int} {ps : List ByteArray} {k : Nat} (hk : k < ps.length) : approveL fs u (ps.take (k + 1)) = approveL fs u (ps.take k) ++ [⟨u, ps[k], descP fs ps[k]⟩] := by
  unfold approveL
  rw [List.take_succ_eq_append_getElem hk, List.map_append]; rfl
theorem validL_succ {fs : List FileP} {l : List Appr} {k : Nat} (hk : k < l.length) : validL (l.take (k + 1)) fs = validL (l.take k) fs ++ [decide (l[k].dig = descP fs l[k].path)] := by
  unfold validL
  rw [List.take_succ_eq_append_getElem hk, List.map_append]; rfl
theorem apprF_len {l : List Appr} (h : apprF l = ⟨0, 0⟩) : l.length ≤ 40 := by
  unfold apprF at h
  split at h
  · cases h
  · omega
theorem appr_bad {a : Appr} (h : (decide (0 ≤ a.user) && decide (a.user ≤ 7)) = false ∨ a.dig < -1 ∨ dMod ≤ a.dig) : a.user < 0 ∨ 7 < a.user ∨ a.dig < -1 ∨ dMod ≤ a.dig := by
  rcases h with h | h | h
  · rw [Bool.and_eq_false_iff] at h
    rcases h with h | h
    · left; have := of_decide_eq_false h; omega
    · right; left; have := of_decide_eq_false h; omega
  · exact .inr (.inr (.inl h))
  · exact .inr (.inr (.inr h))
theorem appr_good {a : Appr} (h : (decide (0 ≤ a.user) && decide (a.user ≤ 7)) = true) (h1 : ¬ a.dig < -1) (h2 : ¬ dMod ≤ a.dig) : ¬ (a.user < 0 ∨ 7 < a.user ∨ a.dig < -1 ∨ dMod ≤ a.dig) := by
  rw [Bool.and_eq_true] at h
  have h3 := of_decide_eq_true h.1
  have h4 := of_decide_eq_true h.2
  rintro (h | h | h | h)
  · omega
  · omega
  · exact h1 h
  · exact h2 h
end Go.Cf
namespace Go.Proofs.YtbkameioedmlkaaGreatDoor
open Go.RowKit Go.Cf
set_option maxRecDepth 10000
theorem bd185_0_1 (x1 : Int) (x2 : Int) : Tryz.prog.built 185 [(0, .int .i64 x1), (1, .int .i64 x2)] = some #[.int .i64 x1, .int .i64 x2] := by kernel_rfl
set_option maxHeartbeats 2000000 in
theorem dMul_any (w : World) (a b : Int) (h0 : 0 ≤ a) (h1 : a < dMod) (h2 : 0 ≤ b) (h3 : b < 9223372036854775808) : Calls Tryz.prog 139 #[.int .i64 a, .int .i64 b] w fun e w' => e = .returned (.int .i64 (mulD a b)) ∧ Below w.heap.size w w' := by
  have hdm : dMod = 2305843009213693951 := rfl
  refine gcalls Tryz.func139 rfl Tryz.ntmps139 (Nat.le_of_ble_eq_true rfl) ?_
  refine gfrom [(0, .int _ _), (1, .int _ _)] ⟨rfl, rfl, trivial⟩ fun σ => ?_
  refine gseq fun N1 hN1 => ?_
  refine greg ?_
  refine gop (y_assign (v := .int _ _) rfl) rfl rfl rfl ?_
  refine gops_nil ?_
  refine hN1 _ _ ?_
  refine gfrom [(0, .int _ _), (1, .int _ _)] ⟨rfl, rfl, trivial⟩ fun σ => ?_
  refine gseq fun N2 hN2 => ?_
  refine greg ?_
  refine gop (y_assign (v := .int _ _) rfl) rfl rfl rfl ?_
  refine gops_nil ?_
  refine hN2 _ _ ?_
  refine gfrom [(0, .int _ _), (1, .int _ _), (5, .int _ _)] ⟨rfl, rfl, rfl, trivial⟩ fun σ => ?_
  refine gseq fun N3 hN3 => ?_
  refine gblock ?_
  refine gfrom2 [(0, .int _ _), (1, .int _ _), (5, .int _ _)] [] ⟨rfl, rfl, rfl, trivial⟩ trivial fun σ => ?_
  refine gloop2 (G := Nat × Int × Int × Int) (fun (n, o, x, y) => MulI n o x y ∧ mulN n o x y = mulD a b) (fun (n, o, x, y) => n) (fun (n, o, x, y) => [(0, .int .i64 x), (1, .int .i64 y), (5, .int .i64 o)]) (fun (n, o, x, y) => []) ((63, 0, a, b)) ?h0 ⟨rfl, rfl, rfl, trivial⟩ trivial rfl ?round
  case h0 => exact ⟨mulI_start h0 h1 h2 h3, rfl⟩
  case round =>
    rintro ⟨n, o, x, y⟩ hφ σ
    obtain ⟨hI, hr⟩ : MulI n o x y ∧ mulN n o x y = mulD a b := hφ
    refine gseq fun N4 hN4 => ?_
    refine gseq fun N5 hN5 => ?_
    refine greg ?_
    refine gop (y_move (v := .int _ _) rfl) rfl rfl rfl ?_
    refine gop (y_gtr rfl rfl) rfl rfl rfl ?_
    refine gops_nil ?_
    refine hN5 _ _ ?_
    refine gfrom [(0, .int _ _), (1, .int _ _), (5, .int _ _), (7, .bool _)] ⟨rfl, rfl, rfl, rfl, trivial⟩ fun σ => ?_
    refine gcond (b := _) rfl (fun hc7 => ?_) (fun hc7 => ?_)
    · 
      replace hc7 := of_decide_eq_true hc7
      have hN := hI.next hc7
      have hE := mulN_next hI hc7
      have hn := hI.pos hc7
      have ho0 := hI.o0
      have ho1 := hI.o1
      have ha0 := hI.a0
      have ha1 := hI.a1
      refine gskip ?_
      refine hN4 _ _ ?_
      refine gfrom [(0, .int _ _), (1, .int _ _), (5, .int _ _)] ⟨rfl, rfl, rfl, trivial⟩ fun σ => ?_
      refine gseq fun N6 hN6 => ?_
      refine gblock ?_
      refine gseq fun N7 hN7 => ?_
      refine gseq fun N8 hN8 => ?_
      refine greg ?_
      refine gop (y_move (v := .int _ _) rfl) rfl rfl rfl ?_
      refine gop (y_and1 rfl rfl) rfl rfl rfl ?_
      refine gop (y_eql rfl rfl) rfl rfl rfl ?_
      refine gops_nil ?_
      refine hN8 _ _ ?_
      refine gfrom [(0, .int _ _), (1, .int _ _), (5, .int _ _), (12, .bool _)] ⟨rfl, rfl, rfl, rfl, trivial⟩ fun σ => ?_
      refine gcond (b := _) rfl (fun hc12 => ?_) (fun hc12 => ?_)
      · 
        replace hc12 := of_decide_eq_true hc12
        refine greg ?_
        refine gop (y_move (v := .int _ _) rfl) rfl rfl rfl ?_
        refine gop (y_move (v := .int _ _) rfl) rfl rfl rfl ?_
        refine gop (y_add rfl rfl ⟨by omega, by omega⟩) rfl rfl rfl ?_
        refine gop (y_rem rfl rfl (by omega) (by decide) (by decide)) rfl rfl rfl ?_
        refine gop (y_assign (v := .int _ _) rfl) rfl rfl rfl ?_
        refine gops_nil ?_
        refine hN7 _ _ ?_
        refine gfrom [(0, .int _ _), (1, .int _ _), (5, .int _ _)] ⟨rfl, rfl, rfl, trivial⟩ fun σ => ?_
        refine greg ?_
        refine gop (y_move (v := .int _ _) rfl) rfl rfl rfl ?_
        refine gop (y_mul rfl rfl ⟨by omega, by omega⟩) rfl rfl rfl ?_
        refine gop (y_rem rfl rfl (by omega) (by decide) (by decide)) rfl rfl rfl ?_
        refine gop (y_assign (v := .int _ _) rfl) rfl rfl rfl ?_
        refine gops_nil ?_
        refine hN6 _ _ ?_
        refine gfrom [(0, .int _ _), (1, .int _ _), (5, .int _ _)] ⟨rfl, rfl, rfl, trivial⟩ fun σ => ?_
        refine greg ?_
        refine gop (y_move (v := .int _ _) rfl) rfl rfl rfl ?_
        refine gop (y_shr1 rfl rfl) rfl rfl rfl ?_
        refine gop (y_assign (v := .int _ _) rfl) rfl rfl rfl ?_
        refine gops_nil ?_
        refine gnext2 ((n - 1, (o + x) % dMod, 2 * x % dMod, y / 2)) (by show n - 1 < n; omega) (⟨by rw [if_pos hc12] at hN; exact hN, by rw [if_pos hc12] at hE; exact hE.trans hr⟩) ⟨rfl, rfl, rfl, trivial⟩ trivial ⟨_, rfl⟩
      · 
        replace hc12 := of_decide_eq_false hc12
        refine gskip ?_
        refine hN7 _ _ ?_
        refine gfrom [(0, .int _ _), (1, .int _ _), (5, .int _ _)] ⟨rfl, rfl, rfl, trivial⟩ fun σ => ?_
        refine greg ?_
        refine gop (y_move (v := .int _ _) rfl) rfl rfl rfl ?_
        refine gop (y_mul rfl rfl ⟨by omega, by omega⟩) rfl rfl rfl ?_
        refine gop (y_rem rfl rfl (by omega) (by decide) (by decide)) rfl rfl rfl ?_
        refine gop (y_assign (v := .int _ _) rfl) rfl rfl rfl ?_
        refine gops_nil ?_
        refine hN6 _ _ ?_
        refine gfrom [(0, .int _ _), (1, .int _ _), (5, .int _ _)] ⟨rfl, rfl, rfl, trivial⟩ fun σ => ?_
        refine greg ?_
        refine gop (y_move (v := .int _ _) rfl) rfl rfl rfl ?_
        refine gop (y_shr1 rfl rfl) rfl rfl rfl ?_
        refine gop (y_assign (v := .int _ _) rfl) rfl rfl rfl ?_
        refine gops_nil ?_
        refine gnext2 ((n - 1, o, 2 * x % dMod, y / 2)) (by show n - 1 < n; omega) (⟨by rw [if_neg hc12] at hN; exact hN, by rw [if_neg hc12] at hE; exact hE.trans hr⟩) ⟨rfl, rfl, rfl, trivial⟩ trivial ⟨_, rfl⟩
    · 
      replace hc7 := of_decide_eq_false hc7
      refine gexit ?_
      refine hN3 _ _ ?_
      refine gfrom [(5, .int _ _)] ⟨rfl, trivial⟩ fun σ => ?_
      refine gseq fun N9 hN9 => ?_
      refine greg ?_
      refine gop (y_move (v := .int _ _) rfl) rfl rfl rfl ?_
      refine gop (y_assign (v := .int _ _) rfl) rfl rfl rfl ?_
      refine gops_nil ?_
      refine hN9 _ _ ?_
      refine gfrom [(4, .int _ _)] ⟨rfl, trivial⟩ fun σ => ?_
      refine gret fun w1 hM => ?_
      refine ⟨_, res1 rfl (rt (v := .int _ _) rfl), ?_⟩
      exact ⟨by rw [← hr, mulN_stop (by omega)], hM.low⟩
set_option maxHeartbeats 2000000 in
theorem dNext_any (w : World) (x y f : Int) (h0 : 0 ≤ x) (h1 : x < dMod) (h2 : 0 ≤ y) (h3 : y ≤ dMod) (h4 : 0 ≤ f) (h5 : f < 9223372036854775808) : Calls Tryz.prog 112 #[.agg #[.int .i64 x, .int .i64 y], .int .i64 f] w fun e w' => e = .returned (.int .i64 (nextD x y f)) ∧ Below w.heap.size w w' := by
  have hdm : dMod = 2305843009213693951 := rfl
  obtain ⟨hb0, hb1⟩ := mulD_bd h0 h1 h4 h5
  refine gcalls Tryz.func112 rfl Tryz.ntmps112 (Nat.le_of_ble_eq_true rfl) ?_
  refine gfrom [(0, .agg #[_, _]), (1, .int _ _)] ⟨rfl, rfl, trivial⟩ fun σ => ?_
  refine gseq fun N1 hN1 => ?_
  refine greg ?_
  refine gop_box (v := .agg #[_, _]) (cs := #[_, _]) rfl rfl rfl (fun b2 hb2 => ?_)
  refine gop (y_assign (v := .int _ _) rfl) rfl rfl rfl ?_
  refine gops_nil ?_
  refine hN1 _ _ ?_
  refine gT [box b2 _] rfl ?_
  refine gfrom [(1, .int _ _), (2, .pointer _)] ⟨rfl, rfl, trivial⟩ fun σ => ?_
  refine gseq fun N2 hN2 => ?_
  refine greg_q (by kernel_rfl) (by kernel_rfl) ?_
  refine gq (y_indexAddr_arr (m := 0) Tryz.underlying185 Tryz.sizeOf3 rfl rfl rfl (by omega) (by omega)) rfl rfl rfl ?_
  refine gq (y_load Tryz.isAgg3 rfl (cell_box 0 rfl rfl)) rfl rfl rfl ?_
  refine gq (y_move (v := .int _ _) rfl) rfl rfl rfl ?_
  refine gq_pure (e_call (vs := [.int _ _, .int _ _]) Tryz.func139 rfl (by kernel_rfl) rfl) (fun w hM => dMul_any w x f h0 h1 h4 h5) rfl rfl rfl ?_
  refine gq (y_indexAddr_arr (m := 1) Tryz.underlying185 Tryz.sizeOf3 rfl rfl rfl (by omega) (by omega)) rfl rfl rfl ?_
  refine gq (y_load Tryz.isAgg3 rfl (cell_box 0 rfl rfl)) rfl rfl rfl ?_
  refine gq (y_add rfl rfl ⟨by omega, by omega⟩) rfl rfl rfl ?_
  refine gq (y_rem rfl rfl (by omega) (by decide) (by decide)) rfl rfl rfl ?_
  refine gq (y_assign (v := .int _ _) rfl) rfl rfl rfl ?_
  refine gqs_nil ?_
  refine hN2 _ _ ?_
  refine gfrom [(4, .int _ _)] ⟨rfl, trivial⟩ fun σ => ?_
  refine gret fun w1 hM => ?_
  refine ⟨_, res1 rfl (rt (v := .int _ _) rfl), ?_⟩
  exact ⟨rfl, hM.low⟩
set_option maxHeartbeats 2000000 in
theorem dOf_any (w : World) (A : Option Addr) (c : Nat) (s : ByteArray) (hl : Rdl w 0 1 u8Cells A s.data.toList) (hs : s.size ≤ 4096) : Calls Tryz.prog 84 #[.slice A s.size c] w fun e w' => e = .returned (.tuple #[.int .i64 (ofD s), fv ⟨0, 0⟩]) ∧ Below w.heap.size w w' := by
  have hdm : dMod = 2305843009213693951 := rfl
  refine gcalls Tryz.func84 rfl Tryz.ntmps84 (Nat.le_of_ble_eq_true rfl) ?_
  refine gfrom [(0, .slice _ _ _)] ⟨rfl, trivial⟩ fun σ => ?_
  refine gseq fun N1 hN1 => ?_
  refine greg ?_
  refine gop (y_assign (v := .int _ _) rfl) rfl rfl rfl ?_
  refine gop_alloc (cs := #[.int .i64 0, .int .i64 0]) Tryz.zeroValue33 rfl rfl (fun b3 hb3 => ?_)
  refine gops_nil ?_
  refine hN1 _ _ ?_
  refine gT [box b3 _] rfl ?_
  refine gfrom [(0, .slice _ _ _), (3, .pointer _)] ⟨rfl, rfl, trivial⟩ fun σ => ?_
  refine gseq fun N2 hN2 => ?_
  refine gseq fun N3 hN3 => ?_
  refine greg ?_
  refine gop (y_move (v := .slice _ _ _) rfl) rfl rfl rfl ?_
  refine gop (y_len Tryz.underlying157 rfl) rfl rfl rfl ?_
  refine gop (y_gtr rfl rfl) rfl rfl rfl ?_
  refine gops_nil ?_
  refine hN3 _ _ ?_
  refine gfrom [(0, .slice _ _ _), (3, .pointer _), (9, .bool _)] ⟨rfl, rfl, rfl, trivial⟩ fun σ => ?_
  refine gcond (b := _) rfl (fun hc9 => ?_) (fun hc9 => ?_)
  · 
     exfalso; have h9 := of_decide_eq_true hc9; omega
  · 
    replace hc9 := of_decide_eq_false hc9
    refine gskip ?_
    refine hN2 _ _ ?_
    refine gfrom [(0, .slice _ _ _), (3, .pointer _)] ⟨rfl, rfl, trivial⟩ fun σ => ?_
    refine gseq fun N4 hN4 => ?_
    refine greg ?_
    refine gop (y_assign (v := .int _ _) rfl) rfl rfl rfl ?_
    refine gops_nil ?_
    refine hN4 _ _ ?_
    refine gfrom [(0, .slice _ _ _), (3, .pointer _), (4, .int _ _)] ⟨rfl, rfl, rfl, trivial⟩ fun σ => ?_
    refine gseq fun N5 hN5 => ?_
    refine gseq fun N6 hN6 => ?_
    refine greg ?_
    refine gop (y_move (v := .slice _ _ _) rfl) rfl rfl rfl ?_
    refine gop (y_len Tryz.underlying157 rfl) rfl rfl rfl ?_
    refine gop (y_move (v := .int _ _) rfl) rfl rfl rfl ?_
    refine gops_nil ?_
    refine hN6 _ _ ?_
    refine gfrom [(3, .pointer _), (4, .int _ _), (11, .slice _ _ _), (12, .int _ _), (13, .int _ _)] ⟨rfl, rfl, rfl, rfl, rfl, trivial⟩ fun σ => ?_
    refine gblock ?_
    refine gfrom2 [(4, .int _ _), (13, .int _ _)] [(3, .pointer _), (11, .slice _ _ _), (12, .int _ _)] ⟨rfl, rfl, trivial⟩ ⟨rfl, rfl, rfl, trivial⟩ fun σ => ?_
    refine gloop2 (G := Nat) (fun k => k ≤ s.size) (fun k => s.size - k) (fun k => [(4, .int .i64 (ofL 1 (s.data.toList.take k))), (13, .int .i64 (k : Int))]) (fun k => []) (0) ?h0 ⟨rfl, rfl, trivial⟩ ⟨rfl, rfl, rfl, trivial⟩ rfl ?round
    case h0 => exact Nat.zero_le _
    case round =>
      intro k hφ σ
      have hk : k ≤ s.size := hφ
      refine gseq fun N7 hN7 => ?_
      refine greg ?_
      refine gop (y_lss rfl rfl) rfl rfl rfl ?_
      refine gops_nil ?_
      refine hN7 _ _ ?_
      refine gfrom [(3, .pointer _), (4, .int _ _), (11, .slice _ _ _), (12, .int _ _), (13, .int _ _), (14, .bool _)] ⟨rfl, rfl, rfl, rfl, rfl, rfl, trivial⟩ fun σ => ?_
      refine gseq fun N8 hN8 => ?_
      refine gcond (b := _) rfl (fun hc14 => ?_) (fun hc14 => ?_)
      · 
        replace hc14 := of_decide_eq_true hc14
        have hk1 : k < s.data.toList.length := by simp; omega
        obtain ⟨ad, rfl, -, hca⟩ := hl.at_ hk1
        obtain ⟨ho0, ho1⟩ := ofL_bd (s.data.toList.take k) 1 (by decide)
        have hb8 : (s.data.toList[k]).toNat < 256 := UInt8.toNat_lt _
        refine gskip ?_
        refine hN8 _ _ ?_
        refine gfrom [(3, .pointer _), (4, .int _ _), (11, .slice _ _ _), (12, .int _ _), (13, .int _ _)] ⟨rfl, rfl, rfl, rfl, rfl, trivial⟩ fun σ => ?_
        refine gseq fun N9 hN9 => ?_
        refine gblock ?_
        refine gseq fun N10 hN10 => ?_
        refine greg ?_
        refine gop (y_indexAddr (m := k) Tryz.underlying157 Tryz.sizeOf5 rfl rfl (by omega) (by omega) (by omega)) rfl rfl rfl ?_
        refine gop (y_load Tryz.isAgg5 rfl (cell_base (hca 0 _ rfl))) rfl rfl rfl ?_
        refine gop (y_assign (v := .int _ _) rfl) rfl rfl rfl ?_
        refine gops_nil ?_
        refine hN10 _ _ ?_
        refine gfrom [(3, .pointer _), (4, .int _ _), (6, .int _ _), (11, .slice _ _ _), (12, .int _ _), (13, .int _ _)] ⟨rfl, rfl, rfl, rfl, rfl, rfl, trivial⟩ fun σ => ?_
        refine greg ?_
        refine gop (y_move (v := .int _ _) rfl) rfl rfl rfl ?_
        refine gop (y_move (v := .int _ _) rfl) rfl rfl rfl ?_
        refine gop (y_toInt (by kernel_rfl) Tryz.underlying3 rfl (by omega) (by omega)) rfl rfl rfl ?_
        refine gop (y_add rfl rfl ⟨by omega, by omega⟩) rfl rfl rfl ?_
        refine gop (y_build (vs := [(0, .int _ _), (1, .int _ _)]) (cells := #[_, _]) rfl (bd185_0_1 _ _)) rfl rfl rfl ?_
        refine gop_pure (e_call (vs := [.agg #[_, _], _]) Tryz.func112 rfl (by kernel_rfl) rfl) (fun w hM => dNext_any w _ _ 257 ho0 ho1 (by omega) (by omega) (by decide) (by decide)) rfl rfl rfl ?_
        refine gop (y_assign (v := .int _ _) rfl) rfl rfl rfl ?_
        refine gops_nil ?_
        refine hN9 _ _ ?_
        refine gfrom [(3, .pointer _), (4, .int _ _), (11, .slice _ _ _), (12, .int _ _), (13, .int _ _)] ⟨rfl, rfl, rfl, rfl, rfl, trivial⟩ fun σ => ?_
        refine greg ?_
        refine gop (y_add rfl rfl ⟨by omega, by omega⟩) rfl rfl rfl ?_
        refine gop (y_move (v := .int _ _) rfl) rfl rfl rfl ?_
        refine gops_nil ?_
        refine gnext2 (k + 1) (by omega) (show k + 1 ≤ _ by omega) ⟨(congrArg (Value.int .i64) (ofL_take hk1).symm), rfl, trivial⟩ ⟨rfl, rfl, rfl, trivial⟩ ⟨_, rfl⟩
      · 
        replace hc14 := of_decide_eq_false hc14
        refine gexit ?_
        refine hN5 _ _ ?_
        refine gfrom [(3, .pointer _), (4, .int _ _)] ⟨rfl, rfl, trivial⟩ fun σ => ?_
        refine gseq fun N11 hN11 => ?_
        refine greg ?_
        refine gop (y_move (v := .int _ _) rfl) rfl rfl rfl ?_
        refine gop (y_build (vs := []) (cells := #[.int .i64 0, .int .i64 0]) rfl bd33_) rfl rfl rfl ?_
        refine gop (y_assign (v := .int _ _) rfl) rfl rfl rfl ?_
        refine gop_store 0 (v := .agg #[_, _]) (cs' := #[_, _]) rfl rfl Tryz.sizeOf33 rfl rfl rfl rfl (Nat.le_of_ble_eq_true rfl) rfl rfl ?_
        refine gops_nil ?_
        refine hN11 _ _ ?_
        refine gT [box b3 _] rfl ?_
        refine gfrom [(2, .int _ _), (3, .pointer _)] ⟨rfl, rfl, trivial⟩ fun σ => ?_
        refine gret fun w1 hM => ?_
        refine ⟨_, res2 rfl (rt (v := .int _ _) rfl) (rc 0 (cs := [_, _]) hM rfl rfl Tryz.isAgg33 Tryz.sizeOf33 rfl), ?_⟩
        exact ⟨by rw [List.take_of_length_le (by simp; omega)]; rfl, hM.low⟩
set_option maxHeartbeats 2000000 in
theorem dPair_any (w : World) (a b : Int) (h0 : 0 ≤ a) (h1 : a < dMod) (h2 : 0 ≤ b) (h3 : b < dMod) : Calls Tryz.prog 85 #[.int .i64 a, .int .i64 b] w fun e w' => e = .returned (.int .i64 (pairD a b)) ∧ Below w.heap.size w w' := by
  have hdm : dMod = 2305843009213693951 := rfl
  obtain ⟨hb0, hb1⟩ := nextD_bd b 7 31
  refine gcalls Tryz.func85 rfl Tryz.ntmps85 (Nat.le_of_ble_eq_true rfl) ?_
  refine gfrom [(0, .int _ _), (1, .int _ _)] ⟨rfl, rfl, trivial⟩ fun σ => ?_
  refine gseq fun N1 hN1 => ?_
  refine greg ?_
  refine gop (y_assign (v := .int _ _) rfl) rfl rfl rfl ?_
  refine gops_nil ?_
  refine hN1 _ _ ?_
  refine gfrom [(0, .int _ _), (1, .int _ _)] ⟨rfl, rfl, trivial⟩ fun σ => ?_
  refine gseq fun N2 hN2 => ?_
  refine greg ?_
  refine gop (y_move (v := .int _ _) rfl) rfl rfl rfl ?_
  refine gop (y_move (v := .int _ _) rfl) rfl rfl rfl ?_
  refine gop (y_build (vs := [(0, .int _ _), (1, _)]) (cells := #[_, _]) rfl (bd185_0_1 _ _)) rfl rfl rfl ?_
  refine gop_pure (e_call (vs := [.agg #[_, _], _]) Tryz.func112 rfl (by kernel_rfl) rfl) (fun w hM => dNext_any w b 7 31 h2 h3 (by decide) (by decide) (by decide) (by decide)) rfl rfl rfl ?_
  refine gop (y_build (vs := [(0, .int _ _), (1, .int _ _)]) (cells := #[_, _]) rfl (bd185_0_1 _ _)) rfl rfl rfl ?_
  refine gop_pure (e_call (vs := [.agg #[_, _], _]) Tryz.func112 rfl (by kernel_rfl) rfl) (fun w hM => dNext_any w a _ 1000003 h0 h1 hb0 (by omega) (by decide) (by decide)) rfl rfl rfl ?_
  refine gop (y_assign (v := .int _ _) rfl) rfl rfl rfl ?_
  refine gops_nil ?_
  refine hN2 _ _ ?_
  refine gfrom [(4, .int _ _)] ⟨rfl, trivial⟩ fun σ => ?_
  refine gret fun w1 hM => ?_
  refine ⟨_, res1 rfl (rt (v := .int _ _) rfl), ?_⟩
  exact ⟨rfl, hM.low⟩
set_option maxHeartbeats 4000000 in
theorem dStr_any (w : World) (A : Option Addr) (c : Nat) (l : List ByteArray) (hl : Rdl w 0 1 strCells A l) (hn : l.length ≤ 120) (hz : ∀ s ∈ l, s.size ≤ 80) : Calls Tryz.prog 47 #[.slice A l.length c] w fun e w' => e = .returned (.tuple #[.int .i64 (strD l), fv ⟨0, 0⟩]) ∧ Below w.heap.size w w' := by
  have hdm : dMod = 2305843009213693951 := rfl
  refine gcalls Tryz.func47 rfl Tryz.ntmps47 (Nat.le_of_ble_eq_true rfl) ?_
  refine gfrom [(0, .slice _ _ _)] ⟨rfl, trivial⟩ fun σ => ?_
  refine gseq fun N1 hN1 => ?_
  refine greg ?_
  refine gop (y_assign (v := .int _ _) rfl) rfl rfl rfl ?_
  refine gop_alloc (cs := #[.int .i64 0, .int .i64 0]) Tryz.zeroValue33 rfl rfl (fun b3 hb3 => ?_)
  refine gops_nil ?_
  refine hN1 _ _ ?_
  refine gT [box b3 _] rfl ?_
  refine gfrom [(0, .slice _ _ _), (3, .pointer _)] ⟨rfl, rfl, trivial⟩ fun σ => ?_
  refine gseq fun N2 hN2 => ?_
  refine gseq fun N3 hN3 => ?_
  refine greg ?_
  refine gop (y_move (v := .slice _ _ _) rfl) rfl rfl rfl ?_
  refine gop (y_len Tryz.underlying22 rfl) rfl rfl rfl ?_
  refine gop (y_gtr rfl rfl) rfl rfl rfl ?_
  refine gops_nil ?_
  refine hN3 _ _ ?_
  refine gfrom [(0, .slice _ _ _), (3, .pointer _), (11, .bool _)] ⟨rfl, rfl, rfl, trivial⟩ fun σ => ?_
  refine gcond (b := _) rfl (fun hc11 => ?_) (fun hc11 => ?_)
  · 
     exfalso; have h9 := of_decide_eq_true hc11; omega
  · 
    replace hc11 := of_decide_eq_false hc11
    refine gskip ?_
    refine hN2 _ _ ?_
    refine gfrom [(0, .slice _ _ _), (3, .pointer _)] ⟨rfl, rfl, trivial⟩ fun σ => ?_
    refine gseq fun N4 hN4 => ?_
    refine greg ?_
    refine gop (y_assign (v := .int _ _) rfl) rfl rfl rfl ?_
    refine gops_nil ?_
    refine hN4 _ _ ?_
    refine gfrom [(0, .slice _ _ _), (3, .pointer _), (4, .int _ _)] ⟨rfl, rfl, rfl, trivial⟩ fun σ => ?_
    refine gseq fun N5 hN5 => ?_
    refine gseq fun N6 hN6 => ?_
    refine greg ?_
    refine gop (y_move (v := .slice _ _ _) rfl) rfl rfl rfl ?_
    refine gop (y_len Tryz.underlying22 rfl) rfl rfl rfl ?_
    refine gop (y_move (v := .int _ _) rfl) rfl rfl rfl ?_
    refine gops_nil ?_
    refine hN6 _ _ ?_
    refine gfrom [(3, .pointer _), (4, .int _ _), (13, .slice _ _ _), (14, .int _ _), (15, .int _ _)] ⟨rfl, rfl, rfl, rfl, rfl, trivial⟩ fun σ => ?_
    refine gblock ?_
    refine gfrom2 [(4, .int _ _), (15, .int _ _)] [(3, .pointer _), (13, .slice _ _ _), (14, .int _ _)] ⟨rfl, rfl, trivial⟩ ⟨rfl, rfl, rfl, trivial⟩ fun σ => ?_
    refine gloop2 (G := Nat) (fun k => k ≤ l.length) (fun k => l.length - k) (fun k => [(4, .int .i64 (strL 2 (l.take k))), (15, .int .i64 (k : Int))]) (fun k => []) (0) ?h0 ⟨rfl, rfl, trivial⟩ ⟨rfl, rfl, rfl, trivial⟩ rfl ?round
    case h0 => exact Nat.zero_le _
    case round =>
      intro k hφ σ
      have hk : k ≤ l.length := hφ
      refine gseq fun N7 hN7 => ?_
      refine greg ?_
      refine gop (y_lss rfl rfl) rfl rfl rfl ?_
      refine gops_nil ?_
      refine hN7 _ _ ?_
      refine gfrom [(3, .pointer _), (4, .int _ _), (13, .slice _ _ _), (14, .int _ _), (15, .int _ _), (16, .bool _)] ⟨rfl, rfl, rfl, rfl, rfl, rfl, trivial⟩ fun σ => ?_
      refine gseq fun N8 hN8 => ?_
      refine gcond (b := _) rfl (fun hc16 => ?_) (fun hc16 => ?_)
      · 
        replace hc16 := of_decide_eq_true hc16
        have hk1 : k < l.length := by omega
        obtain ⟨ad, rfl, -, hca⟩ := hl.at_ hk1
        obtain ⟨ho0, ho1⟩ := strL_bd (l.take k) 2 (by decide)
        obtain ⟨hd0, hd1⟩ := ofD_bd l[k]
        have hzk := hz _ (List.getElem_mem hk1)
        refine gskip ?_
        refine hN8 _ _ ?_
        refine gfrom [(3, .pointer _), (4, .int _ _), (13, .slice _ _ _), (14, .int _ _), (15, .int _ _)] ⟨rfl, rfl, rfl, rfl, rfl, trivial⟩ fun σ => ?_
        refine gseq fun N9 hN9 => ?_
        refine gblock ?_
        refine gseq fun N10 hN10 => ?_
        refine greg ?_
        refine gop (y_move (v := .int _ _) rfl) rfl rfl rfl ?_
        refine gop (y_indexAddr (m := k) Tryz.underlying22 Tryz.sizeOf9 rfl rfl (by omega) (by omega) (by omega)) rfl rfl rfl ?_
        refine gop (y_load Tryz.isAgg9 rfl (cell_base (hca 0 _ rfl))) rfl rfl rfl ?_
        refine gop (y_assign (v := .int _ _) rfl) rfl rfl rfl ?_
        refine gop (y_assign (v := .string _) rfl) rfl rfl rfl ?_
        refine gops_nil ?_
        refine hN10 _ _ ?_
        refine gfrom [(3, .pointer _), (4, .int _ _), (5, .int _ _), (6, .string _), (13, .slice _ _ _), (14, .int _ _), (15, .int _ _)] ⟨rfl, rfl, rfl, rfl, rfl, rfl, rfl, trivial⟩ fun σ => ?_
        refine gseq fun N11 hN11 => ?_
        refine greg ?_
        refine gop (y_move (v := .string _) rfl) rfl rfl rfl ?_
        refine gop_bytes Tryz.underlying9 Tryz.underlying157 Tryz.underlying5 rfl rfl (fun b22 c22 hb22 => ?_)
        refine gop_pure (e_call (vs := [.slice (some ⟨b22, 0, none⟩) _ c22]) Tryz.func84 rfl (by kernel_rfl) rfl) (fun w hM => dOf_any w (some ⟨b22, 0, none⟩) c22 l[k] ((brow_rdl (hM.ok _ (List.mem_of_getElem? (i := 1) rfl))).mono (Nat.zero_le _)) (by omega)) rfl rfl rfl ?_
        refine gop (y_move (v := .tuple #[.int _ _, .agg #[_, _]]) rfl) rfl rfl rfl ?_
        refine gop (y_extract (v := .int _ _) rfl rfl) rfl rfl rfl ?_
        refine gop (y_extract (v := .agg #[_, _]) rfl rfl) rfl rfl rfl ?_
        refine gop_alloc (cs := #[.int .i64 0, .int .i64 0]) Tryz.zeroValue33 rfl rfl (fun b8 hb8 => ?_)
        refine gop (y_assign (v := .int _ _) rfl) rfl rfl rfl ?_
        refine gop_store 2 (v := .agg #[_, _]) (cs' := #[_, _]) rfl rfl Tryz.sizeOf33 rfl rfl rfl rfl (Nat.le_of_ble_eq_true rfl) rfl rfl ?_
        refine gops_nil ?_
        refine hN11 _ _ ?_
        refine gT [box b3 _, brow _ _, box b8 _] rfl ?_
        refine gfrom [(3, .pointer _), (4, .int _ _), (5, .int _ _), (7, .int _ _), (8, .pointer _), (13, .slice _ _ _), (14, .int _ _), (15, .int _ _)] ⟨rfl, rfl, rfl, rfl, rfl, rfl, rfl, rfl, trivial⟩ fun σ => ?_
        refine gseq fun N12 hN12 => ?_
        refine gseq fun N13 hN13 => ?_
        refine greg ?_
        refine gop (y_loads (cs := [_, _]) Tryz.isAgg33 Tryz.sizeOf33 rfl rfl (cells_box 2 rfl)) rfl rfl rfl ?_
        refine gop (y_build (vs := []) (cells := #[.int .i64 0, .int .i64 0]) rfl bd33_) rfl rfl rfl ?_
        refine gop (y_bin (vx := .agg #[_, _]) (vy := .agg #[_, _]) rfl rfl (fun w => eg33 _ _ _ _ _ w) (fun w => ne33 _ _ _ _ w)) rfl rfl rfl ?_
        refine gops_nil ?_
        refine hN13 _ _ ?_
        refine gfrom [(3, .pointer _), (4, .int _ _), (5, .int _ _), (7, .int _ _), (8, .pointer _), (13, .slice _ _ _), (14, .int _ _), (15, .int _ _), (28, .bool _)] ⟨rfl, rfl, rfl, rfl, rfl, rfl, rfl, rfl, rfl, trivial⟩ fun σ => ?_
        refine gcond (b := _) rfl (fun hc28 => ?_) (fun hc28 => ?_)
        · 
           exact absurd hc28 (by simp)
        · 
          refine gskip ?_
          refine hN12 _ _ ?_
          refine gfrom [(3, .pointer _), (4, .int _ _), (7, .int _ _), (13, .slice _ _ _), (14, .int _ _), (15, .int _ _)] ⟨rfl, rfl, rfl, rfl, rfl, rfl, trivial⟩ fun σ => ?_
          refine greg ?_
          refine gop (y_move (v := .int _ _) rfl) rfl rfl rfl ?_
          refine gop (y_move (v := .int _ _) rfl) rfl rfl rfl ?_
          refine gop_pure (e_call (vs := [.int _ _, .int _ _]) Tryz.func85 rfl (by kernel_rfl) rfl) (fun w hM => dPair_any w _ _ ho0 ho1 hd0 hd1) rfl rfl rfl ?_
          refine gop (y_assign (v := .int _ _) rfl) rfl rfl rfl ?_
          refine gops_nil ?_
          refine hN9 _ _ ?_
          refine gfrom [(3, .pointer _), (4, .int _ _), (13, .slice _ _ _), (14, .int _ _), (15, .int _ _)] ⟨rfl, rfl, rfl, rfl, rfl, trivial⟩ fun σ => ?_
          refine greg ?_
          refine gop (y_add rfl rfl ⟨by omega, by omega⟩) rfl rfl rfl ?_
          refine gop (y_move (v := .int _ _) rfl) rfl rfl rfl ?_
          refine gops_nil ?_
          refine gnext2 (k + 1) (by omega) (show k + 1 ≤ _ by omega) ⟨(congrArg (Value.int .i64) (strL_take hk1).symm), rfl, trivial⟩ ⟨rfl, rfl, rfl, trivial⟩ ⟨_, rfl⟩
      · 
        replace hc16 := of_decide_eq_false hc16
        refine gexit ?_
        refine hN5 _ _ ?_
        refine gfrom [(3, .pointer _), (4, .int _ _)] ⟨rfl, rfl, trivial⟩ fun σ => ?_
        refine gseq fun N14 hN14 => ?_
        refine greg ?_
        refine gop (y_move (v := .int _ _) rfl) rfl rfl rfl ?_
        refine gop (y_build (vs := []) (cells := #[.int .i64 0, .int .i64 0]) rfl bd33_) rfl rfl rfl ?_
        refine gop (y_assign (v := .int _ _) rfl) rfl rfl rfl ?_
        refine gop_store 0 (v := .agg #[_, _]) (cs' := #[_, _]) rfl rfl Tryz.sizeOf33 rfl rfl rfl rfl (Nat.le_of_ble_eq_true rfl) rfl rfl ?_
        refine gops_nil ?_
        refine hN14 _ _ ?_
        refine gT [box b3 _] rfl ?_
        refine gfrom [(2, .int _ _), (3, .pointer _)] ⟨rfl, rfl, trivial⟩ fun σ => ?_
        refine gret fun w1 hM => ?_
        refine ⟨_, res2 rfl (rt (v := .int _ _) rfl) (rc 0 (cs := [_, _]) hM rfl rfl Tryz.isAgg33 Tryz.sizeOf33 rfl), ?_⟩
        exact ⟨by rw [List.take_of_length_le (by omega)]; rfl, hM.low⟩
end Go.Proofs.YtbkameioedmlkaaGreatDoor
namespace Go.Proofs
open Go.Shelf
def Tryz.lays106_ren : Go.Shelf.Ren := ⟨fun | 106 => 101 | 213 => 119 | 265 => 145 | n => n, fun | 9 => 9 | 3 => 3 | n => n, fun | n => n⟩
theorem Tryz.lays106 : Go.Proofs.Lays.n106 Tryz.prog Tryz.lays106_ren := {
  mixed := by kernel_rfl
  f106 := Tryz.func101.trans (congrArg some (by kernel_rfl))
  f213 := Tryz.func119.trans (congrArg some (by kernel_rfl))
  f265 := Tryz.func145.trans (congrArg some (by kernel_rfl))
  t3 := Tryz.underlying3
  a3 := Tryz.isAgg3
  z3 := Tryz.sizeOf3
  v3 := Tryz.zeroValue3
  t9 := Tryz.underlying9
  a9 := Tryz.isAgg9
  z9 := Tryz.sizeOf9
  v9 := Tryz.zeroValue9 }
open Go.RowKit in

theorem Tryz.strings_Compare (a b : ByteArray) (w : World) :
    Calls Tryz.prog 101 #[.string a, .string b] w fun e w' => e = .returned (.int .i64 (Lib.compareBytes a.data.toList b.data.toList)) ∧ w' = w := Any.strings_Compare Tryz.lays106 a b w
def Tryz.lays190_ren : Go.Shelf.Ren := ⟨fun | 190 => 73 | 125 => 105 | 258 => 104 | 128 => 130 | 129 => 131 | 302 => 121 | 303 => 122 | 304 => 123 | 305 => 124 | 306 => 125 | 307 => 126 | 308 => 127 | 309 => 128 | 310 => 129 | 333 => 146 | 329 => 147 | 330 => 148 | 334 => 149 | 335 => 150 | 336 => 151 | 344 => 162 | n => n, fun | 31 => 22 | 9 => 9 | 3 => 3 | 46 => 180 | 0 => 0 | 51 => 199 | 53 => 201 | 4 => 4 | 183 => 193 | 182 => 192 | 131 => 102 | 5 => 5 | 218 => 215 | 222 => 219 | 228 => 223 | 229 => 224 | n => n, fun | n => n⟩
theorem Tryz.lays190 : Go.Proofs.Lays.n190 Tryz.prog Tryz.lays190_ren := {
  mixed := by kernel_rfl
  f125 := Tryz.func105.trans (congrArg some (by kernel_rfl))
  f128 := Tryz.func130.trans (congrArg some (by kernel_rfl))
  f129 := Tryz.func131.trans (congrArg some (by kernel_rfl))
  f190 := Tryz.func73.trans (congrArg some (by kernel_rfl))
  f258 := Tryz.func104.trans (congrArg some (by kernel_rfl))
  f302 := Tryz.func121.trans (congrArg some (by kernel_rfl))
  f303 := Tryz.func122.trans (congrArg some (by kernel_rfl))
  f304 := Tryz.func123.trans (congrArg some (by kernel_rfl))
  f305 := Tryz.func124.trans (congrArg some (by kernel_rfl))
  f306 := Tryz.func125.trans (congrArg some (by kernel_rfl))
  f307 := Tryz.func126.trans (congrArg some (by kernel_rfl))
  f308 := Tryz.func127.trans (congrArg some (by kernel_rfl))
  f309 := Tryz.func128.trans (congrArg some (by kernel_rfl))
  f310 := Tryz.func129.trans (congrArg some (by kernel_rfl))
  f329 := Tryz.func147.trans (congrArg some (by kernel_rfl))
  f330 := Tryz.func148.trans (congrArg some (by kernel_rfl))
  f333 := Tryz.func146.trans (congrArg some (by kernel_rfl))
  f334 := Tryz.func149.trans (congrArg some (by kernel_rfl))
  f335 := Tryz.func150.trans (congrArg some (by kernel_rfl))
  f336 := Tryz.func151.trans (congrArg some (by kernel_rfl))
  f344 := Tryz.func162.trans (congrArg some (by kernel_rfl))
  t0 := Tryz.underlying0
  a0 := Tryz.isAgg0
  z0 := Tryz.sizeOf0
  v0 := Tryz.zeroValue0
  t3 := Tryz.underlying3
  a3 := Tryz.isAgg3
  z3 := Tryz.sizeOf3
  v3 := Tryz.zeroValue3
  t4 := Tryz.underlying4
  a4 := Tryz.isAgg4
  z4 := Tryz.sizeOf4
  v4 := Tryz.zeroValue4
  t5 := Tryz.underlying5
  a5 := Tryz.isAgg5
  z5 := Tryz.sizeOf5
  v5 := Tryz.zeroValue5
  t9 := Tryz.underlying9
  a9 := Tryz.isAgg9
  z9 := Tryz.sizeOf9
  v9 := Tryz.zeroValue9
  t31 := Tryz.underlying22
  a31 := Tryz.isAgg22
  z31 := Tryz.sizeOf22
  v31 := Tryz.zeroValue22
  t46 := Tryz.underlying180
  a46 := Tryz.isAgg180
  z46 := Tryz.sizeOf180
  v46 := Tryz.zeroValue180
  t51 := Tryz.underlying199
  a51 := Tryz.isAgg199
  z51 := Tryz.sizeOf199
  v51 := Tryz.zeroValue199
  t53 := Tryz.underlying201
  a53 := Tryz.isAgg201
  z53 := Tryz.sizeOf201
  v53 := Tryz.zeroValue201
  t131 := Tryz.underlying102
  a131 := Tryz.isAgg102
  z131 := Tryz.sizeOf102
  v131 := Tryz.zeroValue102
  t182 := Tryz.underlying192
  a182 := Tryz.isAgg192
  z182 := Tryz.sizeOf192
  v182 := Tryz.zeroValue192
  t183 := Tryz.underlying193
  a183 := Tryz.isAgg193
  z183 := Tryz.sizeOf193
  v183 := Tryz.zeroValue193
  t218 := Tryz.underlying215
  a218 := Tryz.isAgg215
  z218 := Tryz.sizeOf215
  v218 := Tryz.zeroValue215
  t222 := Tryz.underlying219
  a222 := Tryz.isAgg219
  z222 := Tryz.sizeOf219
  v222 := Tryz.zeroValue219
  t228 := Tryz.underlying223
  a228 := Tryz.isAgg223
  z228 := Tryz.sizeOf223
  v228 := Tryz.zeroValue223
  t229 := Tryz.underlying224
  a229 := Tryz.isAgg224
  z229 := Tryz.sizeOf224
  v229 := Tryz.zeroValue224 }
open Go.Sort Go.RowKit in
theorem Tryz.slices_Sort_string (blk off cap : Nat) (ss : List (List UInt8)) (w : World) (hH : Holds encStr w blk off ss.toArray) (hblk : blk < w.heap.size) (hsz : ss.length < 4611686018427387904) :
    Calls Tryz.prog 73 #[.slice (some ⟨blk, off, none⟩) ss.length cap] w fun e w' =>
      e = .returned (.tuple #[]) ∧ ∃ n os, w' = grow (putRow encStr (Sort.ahead w n) blk off (ss.mergeSort fun x y => decide (x ≤ y)).toArray) os := Any.slices_Sort_string Tryz.lays190 blk off cap ss w hH hblk hsz
def Tryz.lays99_ren : Go.Shelf.Ren := ⟨fun | 99 => 138 | 206 => 157 | n => n, fun | 9 => 9 | 4 => 4 | 3 => 3 | n => n, fun | n => n⟩
theorem Tryz.lays99 : Go.Proofs.Lays.n99 Tryz.prog Tryz.lays99_ren := {
  mixed := by kernel_rfl
  f99 := Tryz.func138.trans (congrArg some (by kernel_rfl))
  f206 := Tryz.func157.trans (congrArg some (by kernel_rfl))
  t3 := Tryz.underlying3
  a3 := Tryz.isAgg3
  z3 := Tryz.sizeOf3
  v3 := Tryz.zeroValue3
  t4 := Tryz.underlying4
  a4 := Tryz.isAgg4
  z4 := Tryz.sizeOf4
  v4 := Tryz.zeroValue4
  t9 := Tryz.underlying9
  a9 := Tryz.isAgg9
  z9 := Tryz.sizeOf9
  v9 := Tryz.zeroValue9 }
open Go.RowKit Go.Lib in

theorem Tryz.strings_HasPrefix (s p : ByteArray) (w : World) :
    Calls Tryz.prog 138 #[.string s, .string p] w fun e w' => e = .returned (.bool (Lib.hasPrefix s.data.toList p.data.toList)) ∧ w' = w := Any.strings_HasPrefix Tryz.lays99 s p w
def Tryz.lays194_ren : Go.Shelf.Ren := ⟨fun | 194 => 74 | n => n, fun | 31 => 22 | 9 => 9 | 3 => 3 | 4 => 4 | 0 => 0 | n => n, fun | n => n⟩
theorem Tryz.lays194 : Go.Proofs.Lays.n194 Tryz.prog Tryz.lays194_ren := {
  mixed := by kernel_rfl
  f194 := Tryz.func74.trans (congrArg some (by kernel_rfl))
  t0 := Tryz.underlying0
  a0 := Tryz.isAgg0
  z0 := Tryz.sizeOf0
  v0 := Tryz.zeroValue0
  t3 := Tryz.underlying3
  a3 := Tryz.isAgg3
  z3 := Tryz.sizeOf3
  v3 := Tryz.zeroValue3
  t4 := Tryz.underlying4
  a4 := Tryz.isAgg4
  z4 := Tryz.sizeOf4
  v4 := Tryz.zeroValue4
  t9 := Tryz.underlying9
  a9 := Tryz.isAgg9
  z9 := Tryz.sizeOf9
  v9 := Tryz.zeroValue9
  t31 := Tryz.underlying22
  a31 := Tryz.isAgg22
  z31 := Tryz.sizeOf22
  v31 := Tryz.zeroValue22 }
open Go.RowKit Go.Lib Go.Sort in

theorem Tryz.slices_Compact_string (blk off cap : Nat) (zs : List (List UInt8)) (w : World) (hH : Holds encStr w blk off zs.toArray) (hsz : zs.length ≤ 9223372036854775807) (hcap : zs.length ≤ cap) :
    Calls Tryz.prog 74 #[.slice (some ⟨blk, off, none⟩) zs.length cap] w fun e w' => e = .returned (.slice (some ⟨blk, off, none⟩) (Lib.compact zs).length cap) ∧ ∃ q, w' = putRow encStr (Sort.ahead w q) blk off (Lib.compact zs ++ List.replicate (zs.length - (Lib.compact zs).length) []).toArray := Any.slices_Compact_string Tryz.lays194 blk off cap zs w hH hsz hcap
open Go.RowKit Go.Lib Go.Sort in

theorem Tryz.slices_Compact_string_empty (a : Option Addr) (cap : Nat) (w : World) :
    Calls Tryz.prog 74 #[.slice a 0 cap] w fun e w' => e = .returned (.slice a 0 cap) ∧ w' = w := Any.slices_Compact_string_empty Tryz.lays194 a cap w
open Go.RowKit Go.Sort in

theorem Tryz.slices_Sort_string_none (p : Option Addr) (cap : Nat) (w : World) :
    Calls Tryz.prog 73 #[.slice p 0 cap] w fun e w' => e = .returned (.tuple #[]) ∧ w' = w := Any.slices_Sort_string_none Tryz.lays190 p cap w
end Go.Proofs
namespace Go.Proofs.YtbkameioedmlkaaGreatDoor
open Go.RowKit Go.Cf
set_option maxRecDepth 10000
theorem fa85_0 (a : Addr) (w : World) : (Instr.fieldAt 85 (.pointer (some a)) 0).run Tryz.prog w = .ok (.pointer (some (a.add 0))) w := by kernel_rfl
set_option maxHeartbeats 2000000 in
theorem related_any (w : World) (a b : ByteArray) (ha : a.size ≤ 1000000) (hb : b.size ≤ 1000000) : Calls Tryz.prog 111 #[.string a, .string b] w fun e w' => e = .returned (.bool (relP a b)) ∧ Below w.heap.size w w' := by
  refine gcalls Tryz.func111 rfl Tryz.ntmps111 (Nat.le_of_ble_eq_true rfl) ?_
  refine gfrom [(0, .string _), (1, .string _)] ⟨rfl, rfl, trivial⟩ fun σ => ?_
  refine gseq fun N1 hN1 => ?_
  refine greg ?_
  refine gop (y_assign (v := .bool _) rfl) rfl rfl rfl ?_
  refine gops_nil ?_
  refine hN1 _ _ ?_
  refine gfrom [(0, .string _), (1, .string _)] ⟨rfl, rfl, trivial⟩ fun σ => ?_
  refine gseq fun N2 hN2 => ?_
  refine greg ?_
  refine gop (y_move (v := .string _) rfl) rfl rfl rfl ?_
  refine gop (y_move (v := .string _) rfl) rfl rfl rfl ?_
  refine gop (y_eqls rfl rfl) rfl rfl rfl ?_
  refine gop (y_move (v := .bool _) rfl) rfl rfl rfl ?_
  refine gop_if (want := false) rfl rfl rfl rfl rfl rfl (fun hg8 => ?_) (fun hg8 => ?_)
  · 
    have hg8d := hg8
    have hab : decide (a = b) = false := decide_eq_false (sb_ne_f hg8d)
    refine gop (y_bare (y_move (v := .string _) rfl)) rfl rfl rfl ?_
    refine gop_on rfl rfl rfl rfl hg8 ?_
    refine gop (y_bare (y_move (v := .string _) rfl)) rfl rfl rfl ?_
    refine gop_on rfl rfl rfl rfl hg8 ?_
    refine gop (y_bare (y_cat rfl rfl (by show b.size + 1 ≤ _; omega))) rfl rfl rfl ?_
    refine gop_on rfl rfl rfl rfl hg8 ?_
    refine gop_pure (e_call (vs := [.string _, .string _]) Tryz.func138 rfl (by kernel_rfl) rfl) (fun w hM => (Tryz.strings_HasPrefix _ _ w).mono fun _ _ ⟨h1, h2⟩ => ⟨h1, by subst h2; exact Below.refl _ _⟩) rfl rfl rfl ?_
    refine gop (y_pick_f (v := .bool _) rfl hg8 rfl) rfl rfl rfl ?_
    refine gop (y_move (v := .bool _) rfl) rfl rfl rfl ?_
    refine gop_if (want := false) rfl rfl rfl rfl rfl rfl (fun hg14 => ?_) (fun hg14 => ?_)
    · 
      have hg14d := hg14
      have hR : relP a b = hasP b (a ++ slash) := by rw [relP, hab, show hasP a (b ++ slash) = false from hg14d]; rfl
      refine gop (y_bare (y_move (v := .string _) rfl)) rfl rfl rfl ?_
      refine gop_on rfl rfl rfl rfl hg14 ?_
      refine gop (y_bare (y_move (v := .string _) rfl)) rfl rfl rfl ?_
      refine gop_on rfl rfl rfl rfl hg14 ?_
      refine gop (y_bare (y_cat rfl rfl (by show a.size + 1 ≤ _; omega))) rfl rfl rfl ?_
      refine gop_on rfl rfl rfl rfl hg14 ?_
      refine gop_pure (e_call (vs := [.string _, .string _]) Tryz.func138 rfl (by kernel_rfl) rfl) (fun w hM => (Tryz.strings_HasPrefix _ _ w).mono fun _ _ ⟨h1, h2⟩ => ⟨h1, by subst h2; exact Below.refl _ _⟩) rfl rfl rfl ?_
      refine gop (y_pick_f (v := .bool _) rfl hg14 rfl) rfl rfl rfl ?_
      refine gop (y_assign (v := .bool _) rfl) rfl rfl rfl ?_
      refine gops_nil ?_
      refine hN2 _ _ ?_
      refine gfrom [(4, .bool _)] ⟨rfl, trivial⟩ fun σ => ?_
      refine gret fun w1 hM => ?_
      refine ⟨_, res1 rfl (rt (v := .bool _) rfl), ?_⟩
      exact ⟨congrArg (fun b => Ending.returned (Value.bool b)) hR.symm, hM.low⟩
    · 
      have hg14d := hg14
      have hR : relP a b = true := by rw [relP, hab, show hasP a (b ++ slash) = true from hg14d]; rfl
      refine gop_off rfl rfl rfl rfl hg14 rfl rfl ?_
      refine gop_off rfl rfl rfl rfl hg14 rfl rfl ?_
      refine gop_off rfl rfl rfl rfl hg14 rfl rfl ?_
      refine gop (y_pick_t (v := .bool _) rfl hg14 rfl) rfl rfl rfl ?_
      refine gop (y_assign (v := .bool _) rfl) rfl rfl rfl ?_
      refine gops_nil ?_
      refine hN2 _ _ ?_
      refine gfrom [(4, .bool _)] ⟨rfl, trivial⟩ fun σ => ?_
      refine gret fun w1 hM => ?_
      refine ⟨_, res1 rfl (rt (v := .bool _) rfl), ?_⟩
      exact ⟨congrArg (fun b => Ending.returned (Value.bool b)) hR.symm, hM.low⟩
  · 
    have hg8d := hg8
    have hR : relP a b = true := by rw [relP, decide_eq_true (sb_eq_t hg8d)]; rfl
    refine gop_off rfl rfl rfl rfl hg8 rfl rfl ?_
    refine gop_off rfl rfl rfl rfl hg8 rfl rfl ?_
    refine gop_off rfl rfl rfl rfl hg8 rfl rfl ?_
    refine gop (y_pick_t (v := .bool _) rfl hg8 rfl) rfl rfl rfl ?_
    refine gop (y_move (v := .bool _) rfl) rfl rfl rfl ?_
    refine gop_off rfl rfl rfl rfl rfl rfl rfl ?_
    refine gop_off rfl rfl rfl rfl rfl rfl rfl ?_
    refine gop_off rfl rfl rfl rfl rfl rfl rfl ?_
    refine gop_off rfl rfl rfl rfl rfl rfl rfl ?_
    refine gop (y_pick_t (v := .bool _) rfl rfl rfl) rfl rfl rfl ?_
    refine gop (y_assign (v := .bool _) rfl) rfl rfl rfl ?_
    refine gops_nil ?_
    refine hN2 _ _ ?_
    refine gfrom [(4, .bool _)] ⟨rfl, trivial⟩ fun σ => ?_
    refine gret fun w1 hM => ?_
    refine ⟨_, res1 rfl (rt (v := .bool _) rfl), ?_⟩
    exact ⟨congrArg (fun b => Ending.returned (Value.bool b)) hR.symm, hM.low⟩
set_option maxHeartbeats 2000000 in
theorem clash_any (w : World) (A : Option Addr) (n c : Nat) (fs : List FileC) (hR : Rdl w 0 2 fileCells A fs) (hnl : n = fs.length) (hn : fs.length ≤ 1000000) (path : ByteArray) (ex : Int) (hp : path.size ≤ 1000000) (hq : ∀ f ∈ fs, f.pl.path.size ≤ 1000000) : Calls Tryz.prog 83 #[.slice A n c, .string path, .int .i64 ex] w fun e w' => e = .returned (.bool (clashF path ex 0 (fpl fs))) ∧ Below w.heap.size w w' := by
  subst hnl
  refine gcalls Tryz.func83 rfl Tryz.ntmps83 (Nat.le_of_ble_eq_true rfl) ?_
  refine gfrom [(0, .slice _ _ _), (1, .string _), (2, .int _ _)] ⟨rfl, rfl, rfl, trivial⟩ fun σ => ?_
  refine gseq fun N1 hN1 => ?_
  refine greg ?_
  refine gop (y_assign (v := .bool _) rfl) rfl rfl rfl ?_
  refine gops_nil ?_
  refine hN1 _ _ ?_
  refine gfrom [(0, .slice _ _ _), (1, .string _), (2, .int _ _)] ⟨rfl, rfl, rfl, trivial⟩ fun σ => ?_
  refine gseq fun N2 hN2 => ?_
  refine gseq fun N3 hN3 => ?_
  refine greg ?_
  refine gop (y_move (v := .slice _ _ _) rfl) rfl rfl rfl ?_
  refine gop (y_len Tryz.underlying59 rfl) rfl rfl rfl ?_
  refine gop (y_move (v := .int _ _) rfl) rfl rfl rfl ?_
  refine gops_nil ?_
  refine hN3 _ _ ?_
  refine gfrom [(1, .string _), (2, .int _ _), (9, .slice _ _ _), (10, .int _ _), (11, .int _ _)] ⟨rfl, rfl, rfl, rfl, rfl, trivial⟩ fun σ => ?_
  refine gblock ?_
  refine gfrom2 [(11, .int _ _)] [(1, .string _), (2, .int _ _), (9, .slice _ _ _), (10, .int _ _)] ⟨rfl, trivial⟩ ⟨rfl, rfl, rfl, rfl, trivial⟩ fun σ => ?_
  refine gloop2 (G := Nat) (fun k => k ≤ fs.length ∧ ∀ j (h : j < fs.length), j < k → ((0 + j : Nat) : Int) ≠ ex → relP fs[j].pl.path path = false) (fun k => fs.length - k) (fun k => [(11, .int .i64 (k : Int))]) (fun k => []) (0) ?h0 ⟨rfl, trivial⟩ ⟨rfl, rfl, rfl, rfl, trivial⟩ rfl ?round
  case h0 => exact ⟨Nat.zero_le _, fun _ _ h => absurd h (Nat.not_lt_zero _)⟩
  case round =>
    intro k hφ σ
    obtain ⟨hk, hz⟩ := hφ
    refine gseq fun N4 hN4 => ?_
    refine greg ?_
    refine gop (y_lss rfl rfl) rfl rfl rfl ?_
    refine gops_nil ?_
    refine hN4 _ _ ?_
    refine gfrom [(1, .string _), (2, .int _ _), (9, .slice _ _ _), (10, .int _ _), (11, .int _ _), (12, .bool _)] ⟨rfl, rfl, rfl, rfl, rfl, rfl, trivial⟩ fun σ => ?_
    refine gseq fun N5 hN5 => ?_
    refine gcond (b := _) rfl (fun hc12 => ?_) (fun hc12 => ?_)
    · 
      replace hc12 := of_decide_eq_true hc12
      have hk1 : k < fs.length := by omega
      obtain ⟨ad, rfl, -, hca⟩ := hR.at_ hk1
      refine gskip ?_
      refine hN5 _ _ ?_
      refine gfrom [(1, .string _), (2, .int _ _), (9, .slice _ _ _), (10, .int _ _), (11, .int _ _)] ⟨rfl, rfl, rfl, rfl, rfl, trivial⟩ fun σ => ?_
      refine gseq fun N6 hN6 => ?_
      refine gblock ?_
      refine gseq fun N7 hN7 => ?_
      refine greg ?_
      refine gop (y_move (v := .int _ _) rfl) rfl rfl rfl ?_
      refine gop (y_indexAddr (m := k) Tryz.underlying59 Tryz.sizeOf85 rfl rfl (by omega) (by omega) (by omega)) rfl rfl rfl ?_
      refine gop (y_loads (cs := [_, _]) Tryz.isAgg85 Tryz.sizeOf85 rfl rfl (cells_base hca)) rfl rfl rfl ?_
      refine gop_alloc (cs := #[.string .empty, .slice none 0 0]) Tryz.zeroValue85 rfl rfl (fun b8 hb8 => ?_)
      refine gop (y_assign (v := .int _ _) rfl) rfl rfl rfl ?_
      refine gop_store 0 (v := .agg #[_, _]) (cs' := #[_, _]) rfl rfl Tryz.sizeOf85 rfl rfl rfl rfl (Nat.le_of_ble_eq_true rfl) rfl rfl ?_
      refine gops_nil ?_
      refine hN7 _ _ ?_
      refine gT [box b8 _] rfl ?_
      refine gfrom [(1, .string _), (2, .int _ _), (7, .int _ _), (8, .pointer _), (9, .slice _ _ _), (10, .int _ _), (11, .int _ _)] ⟨rfl, rfl, rfl, rfl, rfl, rfl, rfl, trivial⟩ fun σ => ?_
      refine gseq fun N8 hN8 => ?_
      refine greg ?_
      refine gop (y_move (v := .int _ _) rfl) rfl rfl rfl ?_
      refine gop (y_move (v := .int _ _) rfl) rfl rfl rfl ?_
      refine gop (y_neq rfl rfl) rfl rfl rfl ?_
      refine gop (y_move (v := .bool _) rfl) rfl rfl rfl ?_
      refine gop_if (want := true) rfl rfl rfl rfl rfl rfl (fun hg19 => ?_) (fun hg19 => ?_)
      · 
        have hg19d := of_decide_eq_true hg19
        refine gop (y_bare (y_fieldAddr_box fa85_0 rfl)) rfl rfl rfl ?_
        refine gop_on rfl rfl rfl rfl hg19 ?_
        refine gop (y_bare (y_load Tryz.isAgg9 rfl (cell_box 0 rfl rfl))) rfl rfl rfl ?_
        refine gop_on rfl rfl rfl rfl hg19 ?_
        refine gop (y_bare (y_move (v := .string _) rfl)) rfl rfl rfl ?_
        refine gop_on rfl rfl rfl rfl hg19 ?_
        refine gop_pure (e_call (vs := [.string _, .string _]) Tryz.func111 rfl (by kernel_rfl) rfl) (fun w hM => related_any w _ _ (hq _ (List.getElem_mem hk1)) hp) rfl rfl rfl ?_
        refine gop (y_pick_t (v := .bool _) rfl hg19 rfl) rfl rfl rfl ?_
        refine gops_nil ?_
        refine hN8 _ _ ?_
        refine gfrom [(1, .string _), (2, .int _ _), (9, .slice _ _ _), (10, .int _ _), (11, .int _ _), (24, .bool _)] ⟨rfl, rfl, rfl, rfl, rfl, rfl, trivial⟩ fun σ => ?_
        refine gcond (b := _) rfl (fun hc24 => ?_) (fun hc24 => ?_)
        · 
          refine gseq fun N9 hN9 => ?_
          refine greg ?_
          refine gop (y_assign (v := .bool _) rfl) rfl rfl rfl ?_
          refine gops_nil ?_
          refine hN9 _ _ ?_
          refine gfrom [(6, .bool _)] ⟨rfl, trivial⟩ fun σ => ?_
          refine gret fun w1 hM => ?_
          refine ⟨_, res1 rfl (rt (v := .bool _) rfl), ?_⟩
          exact ⟨by rw [clashF_yes (l := fpl fs) k (by simpa using hk1) (by omega) (by rw [List.getElem_map]; exact hc24)], hM.low⟩
        · 
          have hno2 : ((0 + k : Nat) : Int) ≠ ex → relP fs[k].pl.path path = false := by first | exact hno | exact fun _ => hc24
          refine gskip ?_
          refine hN6 _ _ ?_
          refine gfrom [(1, .string _), (2, .int _ _), (9, .slice _ _ _), (10, .int _ _), (11, .int _ _)] ⟨rfl, rfl, rfl, rfl, rfl, trivial⟩ fun σ => ?_
          refine greg ?_
          refine gop (y_add rfl rfl ⟨by omega, by omega⟩) rfl rfl rfl ?_
          refine gop (y_move (v := .int _ _) rfl) rfl rfl rfl ?_
          refine gops_nil ?_
          refine gnext2 (k + 1) (by omega) (⟨by omega, fun j h hj hne => by rcases Nat.lt_succ_iff_lt_or_eq.1 hj with h1 | rfl; exact hz j h h1 hne; exact hno2 hne⟩) ⟨rfl, trivial⟩ ⟨rfl, rfl, rfl, rfl, trivial⟩ ⟨_, rfl⟩
      · 
        have hg19d := Decidable.not_not.1 (of_decide_eq_false hg19)
        have hno : ((0 + k : Nat) : Int) ≠ ex → relP fs[k].pl.path path = false := fun h9 => by exfalso; omega
        refine gop_off rfl rfl rfl rfl hg19 rfl rfl ?_
        refine gop_off rfl rfl rfl rfl hg19 rfl rfl ?_
        refine gop_off rfl rfl rfl rfl hg19 rfl rfl ?_
        refine gop (y_pick_f (v := .bool _) rfl hg19 rfl) rfl rfl rfl ?_
        refine gops_nil ?_
        refine hN8 _ _ ?_
        refine gfrom [(1, .string _), (2, .int _ _), (9, .slice _ _ _), (10, .int _ _), (11, .int _ _), (24, .bool _)] ⟨rfl, rfl, rfl, rfl, rfl, rfl, trivial⟩ fun σ => ?_
        refine gcond (b := _) rfl (fun hc24 => ?_) (fun hc24 => ?_)
        · 
          cases hc24
        · 
          have hno2 : ((0 + k : Nat) : Int) ≠ ex → relP fs[k].pl.path path = false := by first | exact hno | exact fun _ => hc24
          refine gskip ?_
          refine hN6 _ _ ?_
          refine gfrom [(1, .string _), (2, .int _ _), (9, .slice _ _ _), (10, .int _ _), (11, .int _ _)] ⟨rfl, rfl, rfl, rfl, rfl, trivial⟩ fun σ => ?_
          refine greg ?_
          refine gop (y_add rfl rfl ⟨by omega, by omega⟩) rfl rfl rfl ?_
          refine gop (y_move (v := .int _ _) rfl) rfl rfl rfl ?_
          refine gops_nil ?_
          refine gnext2 (k + 1) (by omega) (⟨by omega, fun j h hj hne => by rcases Nat.lt_succ_iff_lt_or_eq.1 hj with h1 | rfl; exact hz j h h1 hne; exact hno2 hne⟩) ⟨rfl, trivial⟩ ⟨rfl, rfl, rfl, rfl, trivial⟩ ⟨_, rfl⟩
    · 
      replace hc12 := of_decide_eq_false hc12
      refine gexit ?_
      refine hN2 _ _ ?_
      refine gfrom [] trivial fun σ => ?_
      refine gseq fun N10 hN10 => ?_
      refine greg ?_
      refine gop (y_assign (v := .bool _) rfl) rfl rfl rfl ?_
      refine gops_nil ?_
      refine hN10 _ _ ?_
      refine gfrom [(6, .bool _)] ⟨rfl, trivial⟩ fun σ => ?_
      refine gret fun w1 hM => ?_
      refine ⟨_, res1 rfl (rt (v := .bool _) rfl), ?_⟩
      exact ⟨by rw [clashF_no (l := fpl fs) (fun j hj hne => by rw [List.getElem_map]; exact hz j (by simpa using hj) (by simp at hj; omega) hne)], hM.low⟩
set_option maxHeartbeats 1000000 in
theorem find1_any (w : World) (f : FileC) (path : ByteArray) : Calls Tryz.prog 100 #[.agg #[.string f.pl.path, .slice f.A f.pl.lines.length f.c], .string path] w fun e w' => e = .returned (.int .i64 (cmpS f.pl.path path)) ∧ Below w.heap.size w w' := by
  refine gcalls Tryz.func100 rfl Tryz.ntmps100 (Nat.le_of_ble_eq_true rfl) ?_
  refine gfrom [(0, .agg #[_, _]), (1, .string _)] ⟨rfl, rfl, trivial⟩ fun σ => ?_
  refine gseq fun N1 hN1 => ?_
  refine greg ?_
  refine gop_box (v := .agg #[_, _]) (cs := #[_, _]) rfl rfl rfl (fun b2 hb2 => ?_)
  refine gop (y_assign (v := .int _ _) rfl) rfl rfl rfl ?_
  refine gops_nil ?_
  refine hN1 _ _ ?_
  refine gT [box b2 _] rfl ?_
  refine gfrom [(1, .string _), (2, .pointer _)] ⟨rfl, rfl, trivial⟩ fun σ => ?_
  refine gseq fun N2 hN2 => ?_
  refine greg ?_
  refine gop (y_fieldAddr_box fa85_0 rfl) rfl rfl rfl ?_
  refine gop (y_load Tryz.isAgg9 rfl (cell_box 0 rfl rfl)) rfl rfl rfl ?_
  refine gop (y_move (v := .string _) rfl) rfl rfl rfl ?_
  refine gop_pure (e_call (vs := [.string _, .string _]) Tryz.func101 rfl (by kernel_rfl) rfl) (fun w hM => (Tryz.strings_Compare _ _ w).mono fun _ _ ⟨h1, h2⟩ => ⟨h1, by subst h2; exact Below.refl _ _⟩) rfl rfl rfl ?_
  refine gop (y_assign (v := .int _ _) rfl) rfl rfl rfl ?_
  refine gops_nil ?_
  refine hN2 _ _ ?_
  refine gfrom [(4, .int _ _)] ⟨rfl, trivial⟩ fun σ => ?_
  refine gret fun w1 hM => ?_
  refine ⟨_, res1 rfl (rt (v := .int _ _) rfl), ?_⟩
  exact ⟨rfl, hM.low⟩
end Go.Proofs.YtbkameioedmlkaaGreatDoor
namespace Go.Proofs.YtbkameioedmlkaaGreatDoor
open Go.RowKit Go.Cf
set_option maxRecDepth 10000
set_option maxHeartbeats 4000000 in
theorem bsf_any (w : World) (A : Option Addr) (c : Nat) (fs : List FileC) (hR : TreeR w 0 A c fs) (v : VTree (fpl fs)) (path : ByteArray) :
    Calls Tryz.prog 99 #[.slice A fs.length c, .string path, .func (.func 100) #[] #[]] w fun e w' => ∃ (k : Nat) (b : Bool), e = .returned (.tuple #[.int .i64 (k : Int), .bool b]) ∧ Below w.heap.size w w' ∧ (b = true → ∃ h : k < fs.length, fs[k].pl.path = path) ∧ (b = false → ∀ f ∈ fs, f.pl.path ≠ path) := by
  have hsl := hR.sb.len
  have hsm := hR.sb.max
  have hmx : maxLen = 9223372036854775807 := rfl
  have hlen : fs.length ≤ 24 := by have h9 := v.len; simpa using h9
  refine gcalls Tryz.func99 rfl Tryz.ntmps99 (Nat.le_of_ble_eq_true rfl) ?_
  refine gfrom [(0, .slice _ _ _), (1, .string _), (2, .func (.func 100) #[] #[])] ⟨rfl, rfl, rfl, trivial⟩ fun σ => ?_
  refine gseq fun N1 hN1 => ?_
  refine greg ?_
  refine gop (y_assign (v := .int _ _) rfl) rfl rfl rfl ?_
  refine gop (y_assign (v := .bool _) rfl) rfl rfl rfl ?_
  refine gops_nil ?_
  refine hN1 _ _ ?_
  refine gfrom [(0, .slice _ _ _), (1, .string _), (2, .func (.func 100) #[] #[])] ⟨rfl, rfl, rfl, trivial⟩ fun σ => ?_
  refine gseq fun N2 hN2 => ?_
  refine greg ?_
  refine gop (y_move (v := .slice _ _ _) rfl) rfl rfl rfl ?_
  refine gop (y_len Tryz.underlying59 rfl) rfl rfl rfl ?_
  refine gop (y_assign (v := .int _ _) rfl) rfl rfl rfl ?_
  refine gops_nil ?_
  refine hN2 _ _ ?_
  refine gfrom [(0, .slice _ _ _), (1, .string _), (2, .func (.func 100) #[] #[]), (8, .int _ _)] ⟨rfl, rfl, rfl, rfl, trivial⟩ fun σ => ?_
  refine gseq fun N3 hN3 => ?_
  refine greg ?_
  refine gop (y_move (v := .int _ _) rfl) rfl rfl rfl ?_
  refine gop (y_assign (v := .int _ _) rfl) rfl rfl rfl ?_
  refine gop (y_assign (v := .int _ _) rfl) rfl rfl rfl ?_
  refine gops_nil ?_
  refine hN3 _ _ ?_
  refine gfrom [(0, .slice _ _ _), (1, .string _), (2, .func (.func 100) #[] #[]), (8, .int _ _), (9, .int _ _), (10, .int _ _)] ⟨rfl, rfl, rfl, rfl, rfl, rfl, trivial⟩ fun σ => ?_
  refine gseq fun N4 hN4 => ?_
  refine gblock ?_
  refine gfrom2 [(9, .int _ _), (10, .int _ _)] [(0, .slice _ _ _), (1, .string _), (2, .func (.func 100) #[] #[]), (8, .int _ _)] ⟨rfl, rfl, trivial⟩ ⟨rfl, rfl, rfl, rfl, trivial⟩ fun σ => ?_
  refine gloop2 (G := Nat × Nat) (fun (i, j) => i ≤ j ∧ j ≤ fs.length ∧ (∀ m (h : m < fs.length), m < i → ltS fs[m].pl.path path) ∧ (∀ m (h : m < fs.length), j ≤ m → ¬ ltS fs[m].pl.path path)) (fun (i, j) => j - i) (fun (i, j) => [(9, .int .i64 (i : Int)), (10, .int .i64 (j : Int))]) (fun (i, j) => []) ((0, fs.length)) ?h0 ⟨rfl, rfl, trivial⟩ ⟨rfl, rfl, rfl, rfl, trivial⟩ rfl ?round
  case h0 => exact ⟨Nat.zero_le _, Nat.le_refl _, fun _ _ h => absurd h (Nat.not_lt_zero _), fun m h h9 => absurd h (by omega)⟩
  case round =>
    rintro ⟨i, j⟩ hφ σ
    obtain ⟨hij, hj, hlo, hhi⟩ : i ≤ j ∧ j ≤ fs.length ∧ (∀ m (h : m < fs.length), m < i → ltS fs[m].pl.path path) ∧ (∀ m (h : m < fs.length), j ≤ m → ¬ ltS fs[m].pl.path path) := hφ
    refine gseq fun N5 hN5 => ?_
    refine gseq fun N6 hN6 => ?_
    refine greg ?_
    refine gop (y_move (v := .int _ _) rfl) rfl rfl rfl ?_
    refine gop (y_move (v := .int _ _) rfl) rfl rfl rfl ?_
    refine gop (y_lss rfl rfl) rfl rfl rfl ?_
    refine gops_nil ?_
    refine hN6 _ _ ?_
    refine gfrom [(0, .slice _ _ _), (1, .string _), (2, .func (.func 100) #[] #[]), (8, .int _ _), (9, .int _ _), (10, .int _ _), (17, .bool _)] ⟨rfl, rfl, rfl, rfl, rfl, rfl, rfl, trivial⟩ fun σ => ?_
    refine gcond (b := _) rfl (fun hc17 => ?_) (fun hc17 => ?_)
    · 
      replace hc17 := of_decide_eq_true hc17
      have hh : (i + j) / 2 < fs.length := by omega
      obtain ⟨ad, rfl, -, hca⟩ := hR.rd.at_ hh
      refine gskip ?_
      refine hN5 _ _ ?_
      refine gfrom [(0, .slice _ _ _), (1, .string _), (2, .func (.func 100) #[] #[]), (8, .int _ _), (9, .int _ _), (10, .int _ _)] ⟨rfl, rfl, rfl, rfl, rfl, rfl, trivial⟩ fun σ => ?_
      refine gblock ?_
      refine gseq fun N7 hN7 => ?_
      refine greg ?_
      refine gop (y_move (v := .int _ _) rfl) rfl rfl rfl ?_
      refine gop (y_move (v := .int _ _) rfl) rfl rfl rfl ?_
      refine gop (y_add rfl rfl ⟨by omega, by omega⟩) rfl rfl rfl ?_
      refine gop (y_toU (by kernel_rfl) Tryz.underlying180 rfl (by omega) (by omega)) rfl rfl rfl ?_
      refine gop (y_shrU rfl rfl) rfl rfl rfl ?_
      refine gop (y_ofU (by kernel_rfl) Tryz.underlying3 rfl (by omega) (by omega)) rfl rfl rfl ?_
      refine gop (y_assign (v := .int _ _) rfl) rfl rfl rfl ?_
      refine gops_nil ?_
      refine hN7 _ _ ?_
      refine gfrom [(0, .slice _ _ _), (1, .string _), (2, .func (.func 100) #[] #[]), (8, .int _ _), (9, .int _ _), (10, .int _ _), (11, .int _ _)] ⟨rfl, rfl, rfl, rfl, rfl, rfl, rfl, trivial⟩ fun σ => ?_
      refine gseq fun N8 hN8 => ?_
      refine greg ?_
      refine gop (y_move (v := .func (.func 100) #[] #[]) rfl) rfl rfl rfl ?_
      refine gop (y_move (v := .slice _ _ _) rfl) rfl rfl rfl ?_
      refine gop (y_move (v := .int _ _) rfl) rfl rfl rfl ?_
      refine gop (y_indexAddr (m := (i + j) / 2) Tryz.underlying59 Tryz.sizeOf85 rfl rfl (by omega) (by omega) (by omega)) rfl rfl rfl ?_
      refine gop (y_loads (cs := [_, _]) Tryz.isAgg85 Tryz.sizeOf85 rfl rfl (cells_base hca)) rfl rfl rfl ?_
      refine gop (y_move (v := .string _) rfl) rfl rfl rfl ?_
      refine gop_pure (e_callv (vs := [.agg #[_, _], .string _]) (cs := []) rfl Tryz.func100 rfl (by kernel_rfl) rfl) (fun w hM => by have hc := find1_any w fs[(i + j) / 2] path; exact hc) rfl rfl rfl ?_
      refine gop (y_lss rfl rfl) rfl rfl rfl ?_
      refine gops_nil ?_
      refine hN8 _ _ ?_
      refine gfrom [(0, .slice _ _ _), (1, .string _), (2, .func (.func 100) #[] #[]), (8, .int _ _), (9, .int _ _), (10, .int _ _), (11, .int _ _), (31, .bool _)] ⟨rfl, rfl, rfl, rfl, rfl, rfl, rfl, rfl, trivial⟩ fun σ => ?_
      refine gcond (b := _) rfl (fun hc31 => ?_) (fun hc31 => ?_)
      · 
        replace hc31 := of_decide_eq_true hc31
        have hlt := cmpS_lt.1 hc31
        have hle2 := bs_left v hh hlt
        refine greg ?_
        refine gop (y_move (v := .int _ _) rfl) rfl rfl rfl ?_
        refine gop (y_add rfl rfl ⟨by omega, by omega⟩) rfl rfl rfl ?_
        refine gop (y_assign (v := .int _ _) rfl) rfl rfl rfl ?_
        refine gops_nil ?_
        refine gnext2 (((i + j) / 2 + 1, j)) (by show j - ((i + j) / 2 + 1) < j - i; omega) (⟨by show (i + j) / 2 + 1 ≤ j; omega, hj, fun m h h9 => hle2 m h (by omega), hhi⟩) ⟨(by first | rfl | exact congrArg (Value.int .i64) (by omega)), (by first | rfl | exact congrArg (Value.int .i64) (by omega)), trivial⟩ ⟨rfl, rfl, rfl, rfl, trivial⟩ ⟨_, rfl⟩
      · 
        replace hc31 := of_decide_eq_false hc31
        have hge := fun h9 => hc31 (cmpS_lt.2 h9)
        have hge2 := bs_right v hh hge
        refine greg ?_
        refine gop (y_move (v := .int _ _) rfl) rfl rfl rfl ?_
        refine gop (y_assign (v := .int _ _) rfl) rfl rfl rfl ?_
        refine gops_nil ?_
        refine gnext2 ((i, (i + j) / 2)) (by show (i + j) / 2 - i < j - i; omega) (⟨by show i ≤ (i + j) / 2; omega, by show (i + j) / 2 ≤ fs.length; omega, hlo, hge2⟩) ⟨(by first | rfl | exact congrArg (Value.int .i64) (by omega)), (by first | rfl | exact congrArg (Value.int .i64) (by omega)), trivial⟩ ⟨rfl, rfl, rfl, rfl, trivial⟩ ⟨_, rfl⟩
    · 
      replace hc17 := of_decide_eq_false hc17
      refine gexit ?_
      refine hN4 _ _ ?_
      refine gfrom [(0, .slice _ _ _), (1, .string _), (2, .func (.func 100) #[] #[]), (8, .int _ _), (9, .int _ _)] ⟨rfl, rfl, rfl, rfl, rfl, trivial⟩ fun σ => ?_
      refine gseq fun N9 hN9 => ?_
      refine greg ?_
      refine gop (y_move (v := .int _ _) rfl) rfl rfl rfl ?_
      refine gop (y_move (v := .int _ _) rfl) rfl rfl rfl ?_
      refine gop (y_move (v := .int _ _) rfl) rfl rfl rfl ?_
      refine gop (y_lss rfl rfl) rfl rfl rfl ?_
      refine gop (y_move (v := .bool _) rfl) rfl rfl rfl ?_
      refine gop_if (want := true) rfl rfl rfl rfl rfl rfl (fun hg39 => ?_) (fun hg39 => ?_)
      · 
        have hg39d := of_decide_eq_true hg39
        have hi : i < fs.length := by omega
        obtain ⟨ad, rfl, -, hcb⟩ := hR.rd.at_ hi
        refine gop (y_bare (y_move (v := .func (.func 100) #[] #[]) rfl)) rfl rfl rfl ?_
        refine gop_on rfl rfl rfl rfl hg39 ?_
        refine gop (y_bare (y_move (v := .slice _ _ _) rfl)) rfl rfl rfl ?_
        refine gop_on rfl rfl rfl rfl hg39 ?_
        refine gop (y_bare (y_move (v := .int _ _) rfl)) rfl rfl rfl ?_
        refine gop_on rfl rfl rfl rfl hg39 ?_
        refine gop (y_bare (y_indexAddr (m := i) Tryz.underlying59 Tryz.sizeOf85 rfl rfl (by omega) (by omega) (by omega))) rfl rfl rfl ?_
        refine gop_on rfl rfl rfl rfl hg39 ?_
        refine gop (y_bare (y_loads (cs := [_, _]) Tryz.isAgg85 Tryz.sizeOf85 rfl rfl (cells_base hcb))) rfl rfl rfl ?_
        refine gop_on rfl rfl rfl rfl hg39 ?_
        refine gop (y_bare (y_move (v := .string _) rfl)) rfl rfl rfl ?_
        refine gop_on rfl rfl rfl rfl hg39 ?_
        refine gop_pure (e_callv (vs := [.agg #[_, _], .string _]) (cs := []) rfl Tryz.func100 rfl (by kernel_rfl) rfl) (fun w hM => by have hc := find1_any w fs[i] path; exact hc) rfl rfl rfl ?_
        refine gop_on rfl rfl rfl rfl hg39 ?_
        refine gop (y_bare (y_eql rfl rfl)) rfl rfl rfl ?_
        refine gop (y_pick_t (v := .bool _) rfl hg39 rfl) rfl rfl rfl ?_
        refine gop (y_assign (v := .int _ _) rfl) rfl rfl rfl ?_
        refine gop (y_assign (v := .bool _) rfl) rfl rfl rfl ?_
        refine gops_nil ?_
        refine hN9 _ _ ?_
        refine gfrom [(6, .int _ _), (7, .bool _)] ⟨rfl, rfl, trivial⟩ fun σ => ?_
        refine gret fun w1 hM => ?_
        refine ⟨_, res2 rfl (rt (v := .int _ _) rfl) (rt (v := .bool _) rfl), ?_⟩
        have hje : j = i := by omega
        subst hje
        first
          | exact ⟨j, decide (cmpS fs[j].pl.path path = 0), rfl, hM.low, fun h => ⟨hi, cmpS_eq.1 (of_decide_eq_true h)⟩, fun h f hf => bs_none v hlo (fun m h8 h9 => hhi m h8 h9) (fun _ h9 => of_decide_eq_false h (cmpS_eq.2 h9)) hf⟩
          | exact ⟨j, false, rfl, hM.low, (fun h => by cases h), fun _ f hf => bs_none v hlo (fun m h8 h9 => hhi m h8 h9) (fun h9 _ => absurd h9 (by omega)) hf⟩
      · 
        have hg39d := of_decide_eq_false hg39
        refine gop_off rfl rfl rfl rfl hg39 rfl rfl ?_
        refine gop_off rfl rfl rfl rfl hg39 rfl rfl ?_
        refine gop_off rfl rfl rfl rfl hg39 rfl rfl ?_
        refine gop_off rfl rfl rfl rfl hg39 rfl rfl ?_
        refine gop_off rfl rfl rfl rfl hg39 rfl rfl ?_
        refine gop_off rfl rfl rfl rfl hg39 rfl rfl ?_
        refine gop_off rfl rfl rfl rfl hg39 rfl rfl ?_
        refine gop (y_pick_f (v := .bool _) rfl hg39 rfl) rfl rfl rfl ?_
        refine gop (y_assign (v := .int _ _) rfl) rfl rfl rfl ?_
        refine gop (y_assign (v := .bool _) rfl) rfl rfl rfl ?_
        refine gops_nil ?_
        refine hN9 _ _ ?_
        refine gfrom [(6, .int _ _), (7, .bool _)] ⟨rfl, rfl, trivial⟩ fun σ => ?_
        refine gret fun w1 hM => ?_
        refine ⟨_, res2 rfl (rt (v := .int _ _) rfl) (rt (v := .bool _) rfl), ?_⟩
        have hje : j = i := by omega
        subst hje
        first
          | exact ⟨j, decide (cmpS fs[j].pl.path path = 0), rfl, hM.low, fun h => ⟨hi, cmpS_eq.1 (of_decide_eq_true h)⟩, fun h f hf => bs_none v hlo (fun m h8 h9 => hhi m h8 h9) (fun _ h9 => of_decide_eq_false h (cmpS_eq.2 h9)) hf⟩
          | exact ⟨j, false, rfl, hM.low, (fun h => by cases h), fun _ f hf => bs_none v hlo (fun m h8 h9 => hhi m h8 h9) (fun h9 _ => absurd h9 (by omega)) hf⟩
set_option maxHeartbeats 2000000 in
theorem treeFind_any (w : World) (A : Option Addr) (c : Nat) (fs : List FileC) (hR : TreeR w 0 A c fs) (v : VTree (fpl fs)) (path : ByteArray) :
    Calls Tryz.prog 69 #[.slice A fs.length c, .string path] w fun e w' => ∃ (k : Nat) (b : Bool), e = .returned (.tuple #[.int .i64 (k : Int), .bool b]) ∧ Below w.heap.size w w' ∧ (b = true → ∃ h : k < fs.length, fs[k].pl.path = path) ∧ (b = false → ∀ f ∈ fs, f.pl.path ≠ path) := by
  refine gcalls Tryz.func69 rfl Tryz.ntmps69 (Nat.le_of_ble_eq_true rfl) ?_
  refine gfrom [(0, .slice _ _ _), (1, .string _)] ⟨rfl, rfl, trivial⟩ fun σ => ?_
  refine gseq fun N1 hN1 => ?_
  refine greg ?_
  refine gop (y_assign (v := .int _ _) rfl) rfl rfl rfl ?_
  refine gop (y_assign (v := .bool _) rfl) rfl rfl rfl ?_
  refine gops_nil ?_
  refine hN1 _ _ ?_
  refine gfrom [(0, .slice _ _ _), (1, .string _)] ⟨rfl, rfl, trivial⟩ fun σ => ?_
  refine gseq fun N2 hN2 => ?_
  refine greg ?_
  refine gop (y_move (v := .slice _ _ _) rfl) rfl rfl rfl ?_
  refine gop (y_move (v := .string _) rfl) rfl rfl rfl ?_
  refine gop_got (fun v T' => T' = [] ∧ ∃ (k : Nat) (b : Bool), v = .tuple #[.int .i64 (k : Int), .bool b] ∧ (b = true → ∃ h : k < fs.length, fs[k].pl.path = path) ∧ (b = false → ∀ f ∈ fs, f.pl.path ≠ path)) (e_call (vs := [.slice _ _ _, .string _, _]) Tryz.func99 rfl (by kernel_rfl) rfl) (fun w hM => (bsf_any w A c fs (hR.base hM) v path).mono fun _ _ ⟨k, b, h1, h2, h3, h4⟩ => ⟨_, [], h1, ⟨rfl, k, b, rfl, h3, h4⟩, (Mem.start w).call h2⟩) rfl rfl rfl ?_
  rintro _ _ ⟨rfl, k, b, rfl, hf1, hf2⟩
  refine gop (y_extract (v := .int _ _) rfl rfl) rfl rfl rfl ?_
  refine gop (y_extract (v := .bool _) rfl rfl) rfl rfl rfl ?_
  refine gop (y_assign (v := .int _ _) rfl) rfl rfl rfl ?_
  refine gop (y_assign (v := .bool _) rfl) rfl rfl rfl ?_
  refine gops_nil ?_
  refine hN2 _ _ ?_
  refine gfrom [(4, .int _ _), (5, .bool _)] ⟨rfl, rfl, trivial⟩ fun σ => ?_
  refine gret fun w1 hM => ?_
  refine ⟨_, res2 rfl (rt (v := .int _ _) rfl) (rt (v := .bool _) rfl), ?_⟩
  exact ⟨k, b, rfl, hM.low, hf1, hf2⟩
end Go.Proofs.YtbkameioedmlkaaGreatDoor
namespace Go.Proofs.YtbkameioedmlkaaGreatDoor
open Go.RowKit Go.Cf
set_option maxRecDepth 10000
theorem fa61_0 (a : Addr) (w : World) : (Instr.fieldAt 61 (.pointer (some a)) 0).run Tryz.prog w = .ok (.pointer (some (a.add 0))) w := by kernel_rfl
theorem fa85_1 (a : Addr) (w : World) : (Instr.fieldAt 85 (.pointer (some a)) 1).run Tryz.prog w = .ok (.pointer (some (a.add 1))) w := by kernel_rfl
set_option maxHeartbeats 8000000 in
theorem treeValidate_any (w : World) (A : Option Addr) (c : Nat) (fs : List FileC) (hR : TreeR w 0 A c fs) : Calls Tryz.prog 45 #[.agg #[.slice A fs.length c]] w fun e w' => e = .returned (fv (treeF (fpl fs))) ∧ Below w.heap.size w w' := by
  have hsl := hR.sb.len
  have hsm := hR.sb.max
  have hmx : maxLen = 9223372036854775807 := rfl
  refine gcalls Tryz.func45 rfl Tryz.ntmps45 (Nat.le_of_ble_eq_true rfl) ?_
  refine gfrom [(0, .agg #[_])] ⟨rfl, trivial⟩ fun σ => ?_
  refine gseq fun N1 hN1 => ?_
  refine greg ?_
  refine gop_box (v := .agg #[_]) (cs := #[_]) rfl rfl rfl (fun b1 hb1 => ?_)
  refine gop_alloc (cs := #[.int .i64 0, .int .i64 0]) Tryz.zeroValue33 rfl rfl (fun b2 hb2 => ?_)
  refine gops_nil ?_
  refine hN1 _ _ ?_
  refine gT [box b1 _, box b2 _] rfl ?_
  refine gfrom [(1, .pointer _), (2, .pointer _)] ⟨rfl, rfl, trivial⟩ fun σ => ?_
  refine gseq fun N2 hN2 => ?_
  refine gseq fun N3 hN3 => ?_
  refine greg ?_
  refine gop (y_fieldAddr_box fa61_0 rfl) rfl rfl rfl ?_
  refine gop (y_load Tryz.isAgg59 rfl (cell_box 0 rfl rfl)) rfl rfl rfl ?_
  refine gop (y_len Tryz.underlying59 rfl) rfl rfl rfl ?_
  refine gop (y_gtr rfl rfl) rfl rfl rfl ?_
  refine gops_nil ?_
  refine hN3 _ _ ?_
  refine gfrom [(1, .pointer _), (2, .pointer _), (9, .bool _)] ⟨rfl, rfl, rfl, trivial⟩ fun σ => ?_
  refine gcond (b := _) rfl (fun hc9 => ?_) (fun hc9 => ?_)
  · 
    replace hc9 := of_decide_eq_true hc9
    have hF : treeF (fpl fs) = ⟨2, -1⟩ := by rw [treeF, if_pos (by simp; omega)]
    refine gseq fun N4 hN4 => ?_
    refine greg ?_
    refine gop (y_build (vs := [(0, _), (1, _)]) (cells := #[_, _]) rfl (bd33_0_1 _ _)) rfl rfl rfl ?_
    refine gop_store 1 (v := .agg #[_, _]) (cs' := #[_, _]) rfl rfl Tryz.sizeOf33 rfl rfl rfl rfl (Nat.le_of_ble_eq_true rfl) rfl rfl ?_
    refine gops_nil ?_
    refine hN4 _ _ ?_
    refine gT [box b1 _, box b2 _] rfl ?_
    refine gfrom [(2, .pointer _)] ⟨rfl, trivial⟩ fun σ => ?_
    refine gret fun w1 hM => ?_
    refine ⟨_, res1 rfl (rc 1 (cs := [_, _]) hM rfl rfl Tryz.isAgg33 Tryz.sizeOf33 rfl), ?_⟩
    exact ⟨by rw [hF], hM.low⟩
  · 
    replace hc9 := of_decide_eq_false hc9
    have hF : treeF (fpl fs) = scan (fun i f => treeC (fpl fs) i f) (fpl fs) := by rw [treeF, if_neg (by simp; omega)]
    refine gskip ?_
    refine hN2 _ _ ?_
    refine gfrom [(1, .pointer _), (2, .pointer _)] ⟨rfl, rfl, trivial⟩ fun σ => ?_
    refine gseq fun N5 hN5 => ?_
    refine gseq fun N6 hN6 => ?_
    refine greg ?_
    refine gop (y_fieldAddr_box fa61_0 rfl) rfl rfl rfl ?_
    refine gop (y_load Tryz.isAgg59 rfl (cell_box 0 rfl rfl)) rfl rfl rfl ?_
    refine gop (y_len Tryz.underlying59 rfl) rfl rfl rfl ?_
    refine gop (y_move (v := .int _ _) rfl) rfl rfl rfl ?_
    refine gops_nil ?_
    refine hN6 _ _ ?_
    refine gfrom [(1, .pointer _), (2, .pointer _), (12, .slice _ _ _), (13, .int _ _), (14, .int _ _)] ⟨rfl, rfl, rfl, rfl, rfl, trivial⟩ fun σ => ?_
    refine gblock ?_
    refine gfrom2 [(14, .int _ _)] [(1, .pointer _), (2, .pointer _), (12, .slice _ _ _), (13, .int _ _)] ⟨rfl, trivial⟩ ⟨rfl, rfl, rfl, rfl, trivial⟩ fun σ => ?_
    refine gloop2 (G := Nat) (fun k => k ≤ fs.length ∧ ∀ j (h : j < fs.length), j < k → treeC (fpl fs) j fs[j].pl = 0) (fun k => fs.length - k) (fun k => [(14, .int .i64 (k : Int))]) (fun k => []) (0) ?h0 ⟨rfl, trivial⟩ ⟨rfl, rfl, rfl, rfl, trivial⟩ rfl ?round
    case h0 => exact ⟨Nat.zero_le _, fun _ _ h => absurd h (Nat.not_lt_zero _)⟩
    case round =>
      intro k hφ σ
      obtain ⟨hk, hz⟩ := hφ
      refine gseq fun N7 hN7 => ?_
      refine greg ?_
      refine gop (y_lss rfl rfl) rfl rfl rfl ?_
      refine gops_nil ?_
      refine hN7 _ _ ?_
      refine gfrom [(1, .pointer _), (2, .pointer _), (12, .slice _ _ _), (13, .int _ _), (14, .int _ _), (15, .bool _)] ⟨rfl, rfl, rfl, rfl, rfl, rfl, trivial⟩ fun σ => ?_
      refine gseq fun N8 hN8 => ?_
      refine gcond (b := _) rfl (fun hc15 => ?_) (fun hc15 => ?_)
      · 
        replace hc15 := of_decide_eq_true hc15
        have hk1 : k < fs.length := by omega
        obtain ⟨ad, rfl, -, hca⟩ := hR.rd.at_ hk1
        have hRk := hR.each _ (List.getElem_mem hk1)
        have hk2 : k < (fpl fs).length := by simpa using hk1
        refine gskip ?_
        refine hN8 _ _ ?_
        refine gfrom [(1, .pointer _), (2, .pointer _), (12, .slice _ _ _), (13, .int _ _), (14, .int _ _)] ⟨rfl, rfl, rfl, rfl, rfl, trivial⟩ fun σ => ?_
        refine gseq fun N9 hN9 => ?_
        refine gblock ?_
        refine gseq fun N10 hN10 => ?_
        refine greg ?_
        refine gop (y_move (v := .int _ _) rfl) rfl rfl rfl ?_
        refine gop (y_indexAddr (m := k) Tryz.underlying59 Tryz.sizeOf85 rfl rfl (by omega) (by omega) (by omega)) rfl rfl rfl ?_
        refine gop (y_loads (cs := [_, _]) Tryz.isAgg85 Tryz.sizeOf85 rfl rfl (cells_base hca)) rfl rfl rfl ?_
        refine gop_alloc (cs := #[.string .empty, .slice none 0 0]) Tryz.zeroValue85 rfl rfl (fun b4 hb4 => ?_)
        refine gop (y_assign (v := .int _ _) rfl) rfl rfl rfl ?_
        refine gop_store 2 (v := .agg #[_, _]) (cs' := #[_, _]) rfl rfl Tryz.sizeOf85 rfl rfl rfl rfl (Nat.le_of_ble_eq_true rfl) rfl rfl ?_
        refine gops_nil ?_
        refine hN10 _ _ ?_
        refine gT [box b1 _, box b2 _, box b4 _] rfl ?_
        refine gfrom [(1, .pointer _), (2, .pointer _), (3, .int _ _), (4, .pointer _), (12, .slice _ _ _), (13, .int _ _), (14, .int _ _)] ⟨rfl, rfl, rfl, rfl, rfl, rfl, rfl, trivial⟩ fun σ => ?_
        refine gseq fun N11 hN11 => ?_
        refine gblock ?_
        refine gseq fun N12 hN12 => ?_
        refine greg ?_
        refine gop (y_fieldAddr_box fa85_0 rfl) rfl rfl rfl ?_
        refine gop (y_load Tryz.isAgg9 rfl (cell_box 2 rfl rfl)) rfl rfl rfl ?_
        refine gop_pure (e_call (vs := [.string _]) Tryz.func44 rfl (by kernel_rfl) rfl) (fun w hM => validPath_any w _) rfl rfl rfl ?_
        refine gop (y_not rfl) rfl rfl rfl ?_
        refine gop (y_assign (v := .bool _) rfl) rfl rfl rfl ?_
        refine gops_nil ?_
        refine hN12 _ _ ?_
        refine gfrom [(1, .pointer _), (2, .pointer _), (3, .int _ _), (4, .pointer _), (12, .slice _ _ _), (13, .int _ _), (14, .int _ _), (19, .bool _)] ⟨rfl, rfl, rfl, rfl, rfl, rfl, rfl, rfl, trivial⟩ fun σ => ?_
        refine gcond (b := _) rfl (fun hc19 => ?_) (fun hc19 => ?_)
        · 
          replace hc19 := not_t hc19
          have hC : treeC (fpl fs) k fs[k].pl = 12 := by rw [treeC, if_pos (by simp [hc19])]
          refine gseq fun N13 hN13 => ?_
          refine greg ?_
          refine gop (y_move (v := .int _ _) rfl) rfl rfl rfl ?_
          refine gop (y_build (vs := [(0, _), (1, .int _ _)]) (cells := #[_, _]) rfl (bd33_0_1 _ _)) rfl rfl rfl ?_
          refine gop_store 1 (v := .agg #[_, _]) (cs' := #[_, _]) rfl rfl Tryz.sizeOf33 rfl rfl rfl rfl (Nat.le_of_ble_eq_true rfl) rfl rfl ?_
          refine gops_nil ?_
          refine hN13 _ _ ?_
          refine gT [box b1 _, box b2 _, box b4 _] rfl ?_
          refine gfrom [(2, .pointer _)] ⟨rfl, trivial⟩ fun σ => ?_
          refine gret fun w1 hM => ?_
          refine ⟨_, res1 rfl (rc 1 (cs := [_, _]) hM rfl rfl Tryz.isAgg33 Tryz.sizeOf33 rfl), ?_⟩
          exact ⟨by rw [hF, tree_at hk1 hz hC (by decide)], hM.low⟩
        · 
          replace hc19 := not_f hc19
          have hpk : pathOk fs[k].pl.path = true := by simpa using hc19
          have hpz : fs[k].pl.path.size ≤ 1000000 := Nat.le_trans (pathOk_size hpk) (by decide)
          have hqz : ∀ f ∈ fs.take k, f.pl.path.size ≤ 1000000 := fun f hf => by obtain ⟨j, hj, rfl⟩ := List.getElem_of_mem hf; rw [List.getElem_take]; exact Nat.le_trans (pathOk_size (treeC_zero (hz j (by simp at hj; omega) (by simp at hj; omega))).1) (by decide)
          have hp1 : ¬ ¬ pathOk fs[k].pl.path = true := fun h9 => h9 hpk
          refine gseq fun N14 hN14 => ?_
          refine greg_q (by kernel_rfl) (by kernel_rfl) ?_
          refine gq (y_move (v := .int _ _) rfl) rfl rfl rfl ?_
          refine gq (y_gtr rfl rfl) rfl rfl rfl ?_
          refine gq (y_move (v := .bool _) rfl) rfl rfl rfl ?_
          refine gq_if (want := true) rfl rfl rfl rfl rfl rfl (fun hg29 => ?_) (fun hg29 => ?_)
          · 
            have hg29d := of_decide_eq_true hg29
            have hk0 : k - 1 < fs.length := by omega
            obtain ⟨ad2, hq2, -, hcb⟩ := hR.rd.at_ hk0
            cases hq2
            have hkp : prevS (fpl fs) k = fs[k - 1].pl.path := by simp [prevS, hk0]
            refine gq (y_bare (y_fieldAddr_box fa85_0 rfl)) rfl rfl rfl ?_
            refine gq_on rfl rfl rfl rfl hg29 ?_
            refine gq (y_bare (y_load Tryz.isAgg9 rfl (cell_box 2 rfl rfl))) rfl rfl rfl ?_
            refine gq_on rfl rfl rfl rfl hg29 ?_
            refine gq (y_bare (y_fieldAddr_box fa61_0 rfl)) rfl rfl rfl ?_
            refine gq_on rfl rfl rfl rfl hg29 ?_
            refine gq (y_bare (y_load Tryz.isAgg59 rfl (cell_box 0 rfl rfl))) rfl rfl rfl ?_
            refine gq_on rfl rfl rfl rfl hg29 ?_
            refine gq (y_bare (y_move (v := .int _ _) rfl)) rfl rfl rfl ?_
            refine gq_on rfl rfl rfl rfl hg29 ?_
            refine gq (y_bare (y_sub rfl rfl ⟨by omega, by omega⟩)) rfl rfl rfl ?_
            refine gq_on rfl rfl rfl rfl hg29 ?_
            refine gq (y_bare (y_indexAddr (m := k - 1) Tryz.underlying59 Tryz.sizeOf85 rfl rfl (by omega) (by omega) (by omega))) rfl rfl rfl ?_
            refine gq_on rfl rfl rfl rfl hg29 ?_
            refine gq (y_bare (y_fieldAddr_add fa85_0 rfl)) rfl rfl rfl ?_
            refine gq_on rfl rfl rfl rfl hg29 ?_
            refine gq (y_bare (y_load Tryz.isAgg9 rfl (cell_base (hcb 0 _ rfl)))) rfl rfl rfl ?_
            refine gq_on rfl rfl rfl rfl hg29 ?_
            refine gq (y_bare (y_leqs rfl rfl)) rfl rfl rfl ?_
            refine gq (y_pick_t (v := .bool _) rfl hg29 rfl) rfl rfl rfl ?_
            refine gq (y_assign (v := .bool _) rfl) rfl rfl rfl ?_
            refine gqs_nil ?_
            refine hN14 _ _ ?_
            refine gfrom [(1, .pointer _), (2, .pointer _), (3, .int _ _), (4, .pointer _), (12, .slice _ _ _), (13, .int _ _), (14, .int _ _), (26, .bool _)] ⟨rfl, rfl, rfl, rfl, rfl, rfl, rfl, rfl, trivial⟩ fun σ => ?_
            refine gcond (b := _) rfl (fun hc26 => ?_) (fun hc26 => ?_)
            · 
              have hC : treeC (fpl fs) k fs[k].pl = 5 := by rw [treeC, if_neg hp1, if_pos ⟨by omega, leS_t hkp hc26⟩]
              refine gseq fun N15 hN15 => ?_
              refine greg ?_
              refine gop (y_move (v := .int _ _) rfl) rfl rfl rfl ?_
              refine gop (y_build (vs := [(0, _), (1, .int _ _)]) (cells := #[_, _]) rfl (bd33_0_1 _ _)) rfl rfl rfl ?_
              refine gop_store 1 (v := .agg #[_, _]) (cs' := #[_, _]) rfl rfl Tryz.sizeOf33 rfl rfl rfl rfl (Nat.le_of_ble_eq_true rfl) rfl rfl ?_
              refine gops_nil ?_
              refine hN15 _ _ ?_
              refine gT [box b1 _, box b2 _, box b4 _] rfl ?_
              refine gfrom [(2, .pointer _)] ⟨rfl, trivial⟩ fun σ => ?_
              refine gret fun w1 hM => ?_
              refine ⟨_, res1 rfl (rc 1 (cs := [_, _]) hM rfl rfl Tryz.isAgg33 Tryz.sizeOf33 rfl), ?_⟩
              exact ⟨by rw [hF, tree_at hk1 hz hC (by decide)], hM.low⟩
            · 
              have hp2 : ¬ (0 < k ∧ ¬ ltS (prevS (fpl fs) k) fs[k].pl.path) := by first | exact fun h9 => h9.2 (leS_f hkp hc26) | exact fun h9 => absurd h9.1 (by omega)
              refine gseq fun N16 hN16 => ?_
              refine greg_q (by kernel_rfl) (by kernel_rfl) ?_
              refine gq (y_fieldAddr_box fa61_0 rfl) rfl rfl rfl ?_
              refine gq (y_load Tryz.isAgg59 rfl (cell_box 0 rfl rfl)) rfl rfl rfl ?_
              refine gq (y_move (v := .int _ _) rfl) rfl rfl rfl ?_
              refine gq (y_prefix (m := k) Tryz.underlying59 Tryz.sizeOf85 rfl rfl (by omega) (by omega) rfl) rfl rfl rfl ?_
              refine gq (y_fieldAddr_box fa85_0 rfl) rfl rfl rfl ?_
              refine gq (y_load Tryz.isAgg9 rfl (cell_box 2 rfl rfl)) rfl rfl rfl ?_
              refine gq_pure (e_call (vs := [.slice _ _ _, .string _, _]) Tryz.func83 rfl (by kernel_rfl) rfl) (fun w hM => by have hc := clash_any w (some ad) k c (fs.take k) (rdl_take (hR.rd.base hM) k) (by simp; omega) (by simp; omega) fs[k].pl.path (-1) hpz hqz; exact hc) rfl rfl rfl ?_
              refine gq (y_assign (v := .bool _) rfl) rfl rfl rfl ?_
              refine gqs_nil ?_
              refine hN16 _ _ ?_
              refine gfrom [(1, .pointer _), (2, .pointer _), (3, .int _ _), (4, .pointer _), (12, .slice _ _ _), (13, .int _ _), (14, .int _ _), (43, .bool _)] ⟨rfl, rfl, rfl, rfl, rfl, rfl, rfl, rfl, trivial⟩ fun σ => ?_
              refine gcond (b := _) rfl (fun hc43 => ?_) (fun hc43 => ?_)
              · 
                have hC : treeC (fpl fs) k fs[k].pl = 7 := by rw [treeC, if_neg hp1, if_neg hp2, if_pos (by rw [← List.map_take]; exact hc43)]
                refine gseq fun N17 hN17 => ?_
                refine greg ?_
                refine gop (y_move (v := .int _ _) rfl) rfl rfl rfl ?_
                refine gop (y_build (vs := [(0, _), (1, .int _ _)]) (cells := #[_, _]) rfl (bd33_0_1 _ _)) rfl rfl rfl ?_
                refine gop_store 1 (v := .agg #[_, _]) (cs' := #[_, _]) rfl rfl Tryz.sizeOf33 rfl rfl rfl rfl (Nat.le_of_ble_eq_true rfl) rfl rfl ?_
                refine gops_nil ?_
                refine hN17 _ _ ?_
                refine gT [box b1 _, box b2 _, box b4 _] rfl ?_
                refine gfrom [(2, .pointer _)] ⟨rfl, trivial⟩ fun σ => ?_
                refine gret fun w1 hM => ?_
                refine ⟨_, res1 rfl (rc 1 (cs := [_, _]) hM rfl rfl Tryz.isAgg33 Tryz.sizeOf33 rfl), ?_⟩
                exact ⟨by rw [hF, tree_at hk1 hz hC (by decide)], hM.low⟩
              · 
                have hC : treeC (fpl fs) k fs[k].pl = (linesF fs[k].pl.lines).code := by rw [treeC, if_neg hp1, if_neg hp2, if_neg (by rw [← List.map_take, show clashF _ _ _ (List.map FileC.pl (fs.take k)) = false from hc43]; simp)]
                refine gskip ?_
                refine hN11 _ _ ?_
                refine gfrom [(1, .pointer _), (2, .pointer _), (3, .int _ _), (4, .pointer _), (12, .slice _ _ _), (13, .int _ _), (14, .int _ _)] ⟨rfl, rfl, rfl, rfl, rfl, rfl, rfl, trivial⟩ fun σ => ?_
                refine gseq fun N18 hN18 => ?_
                refine greg ?_
                refine gop (y_fieldAddr_box fa85_1 rfl) rfl rfl rfl ?_
                refine gop (y_load Tryz.isAgg22 rfl (cell_box 2 rfl rfl)) rfl rfl rfl ?_
                refine gop (y_move (v := .int _ _) rfl) rfl rfl rfl ?_
                refine gop_pure (e_call (vs := [.slice _ _ _, .int _ _]) Tryz.func28 rfl (by kernel_rfl) rfl) (fun w hM => linesSecond_any w _ _ _ (hRk.rd.base hM) (Nat.le_trans hRk.sb.len hRk.sb.max) (k : Int)) rfl rfl rfl ?_
                refine gop_alloc (cs := #[.int .i64 0, .int .i64 0]) Tryz.zeroValue33 rfl rfl (fun b5 hb5 => ?_)
                refine gop_store 3 (v := .agg #[_, _]) (cs' := #[_, _]) rfl rfl Tryz.sizeOf33 rfl rfl rfl rfl (Nat.le_of_ble_eq_true rfl) rfl rfl ?_
                refine gops_nil ?_
                refine hN18 _ _ ?_
                refine gT [box b1 _, box b2 _, box b4 _, box b5 _] rfl ?_
                refine gfrom [(1, .pointer _), (2, .pointer _), (5, .pointer _), (12, .slice _ _ _), (13, .int _ _), (14, .int _ _)] ⟨rfl, rfl, rfl, rfl, rfl, rfl, trivial⟩ fun σ => ?_
                refine gseq fun N19 hN19 => ?_
                refine greg ?_
                refine gop (y_loads (cs := [_, _]) Tryz.isAgg33 Tryz.sizeOf33 rfl rfl (cells_box 3 rfl)) rfl rfl rfl ?_
                refine gop (y_build (vs := []) (cells := #[.int .i64 0, .int .i64 0]) rfl bd33_) rfl rfl rfl ?_
                refine gop (y_bin (vx := .agg #[_, _]) (vy := .agg #[_, _]) rfl rfl (fun w => eg33 _ _ _ _ _ w) (fun w => ne33 _ _ _ _ w)) rfl rfl rfl ?_
                refine gops_nil ?_
                refine hN19 _ _ ?_
                refine gfrom [(1, .pointer _), (2, .pointer _), (5, .pointer _), (12, .slice _ _ _), (13, .int _ _), (14, .int _ _), (59, .bool _)] ⟨rfl, rfl, rfl, rfl, rfl, rfl, rfl, trivial⟩ fun σ => ?_
                refine gcond (b := _) rfl (fun hc59 => ?_) (fun hc59 => ?_)
                · 
                  replace hc59 := fault_ne.1 hc59
                  refine gseq fun N20 hN20 => ?_
                  refine greg ?_
                  refine gop (y_loads (cs := [_, _]) Tryz.isAgg33 Tryz.sizeOf33 rfl rfl (cells_box 3 rfl)) rfl rfl rfl ?_
                  refine gop_store 1 (v := .agg #[_, _]) (cs' := #[_, _]) rfl rfl Tryz.sizeOf33 rfl rfl rfl rfl (Nat.le_of_ble_eq_true rfl) rfl rfl ?_
                  refine gops_nil ?_
                  refine hN20 _ _ ?_
                  refine gT [box b1 _, box b2 _, box b4 _, box b5 _] rfl ?_
                  refine gfrom [(2, .pointer _)] ⟨rfl, trivial⟩ fun σ => ?_
                  refine gret fun w1 hM => ?_
                  refine ⟨_, res1 rfl (rc 1 (cs := [_, _]) hM rfl rfl Tryz.isAgg33 Tryz.sizeOf33 rfl), ?_⟩
                  exact ⟨by rw [hF, tree_at hk1 hz hC (sec_code hc59), secondF, if_pos (sec_ne hc59)], hM.low⟩
                · 
                  replace hc59 := fault_eq.1 hc59
                  have hC0 : treeC (fpl fs) k fs[k].pl = 0 := by rw [hC]; exact sec_zero hc59
                  refine gskip ?_
                  refine hN9 _ _ ?_
                  refine gfrom [(1, .pointer _), (2, .pointer _), (12, .slice _ _ _), (13, .int _ _), (14, .int _ _)] ⟨rfl, rfl, rfl, rfl, rfl, trivial⟩ fun σ => ?_
                  refine greg ?_
                  refine gop (y_add rfl rfl ⟨by omega, by omega⟩) rfl rfl rfl ?_
                  refine gop (y_move (v := .int _ _) rfl) rfl rfl rfl ?_
                  refine gops_nil ?_
                  refine gnext2 (k + 1) (by omega) (⟨by omega, fun j h hj => by rcases Nat.lt_succ_iff_lt_or_eq.1 hj with h1 | rfl; exact hz j h h1; exact hC0⟩) ⟨rfl, trivial⟩ ⟨rfl, rfl, rfl, rfl, trivial⟩ ⟨_, rfl⟩
          · 
            have hg29d := of_decide_eq_false hg29
            refine gq_off rfl rfl rfl rfl hg29 rfl rfl ?_
            refine gq_off rfl rfl rfl rfl hg29 rfl rfl ?_
            refine gq_off rfl rfl rfl rfl hg29 rfl rfl ?_
            refine gq_off rfl rfl rfl rfl hg29 rfl rfl ?_
            refine gq_off rfl rfl rfl rfl hg29 rfl rfl ?_
            refine gq_off rfl rfl rfl rfl hg29 rfl rfl ?_
            refine gq_off rfl rfl rfl rfl hg29 rfl rfl ?_
            refine gq_off rfl rfl rfl rfl hg29 rfl rfl ?_
            refine gq_off rfl rfl rfl rfl hg29 rfl rfl ?_
            refine gq (y_pick_f (v := .bool _) rfl hg29 rfl) rfl rfl rfl ?_
            refine gq (y_assign (v := .bool _) rfl) rfl rfl rfl ?_
            refine gqs_nil ?_
            refine hN14 _ _ ?_
            refine gfrom [(1, .pointer _), (2, .pointer _), (3, .int _ _), (4, .pointer _), (12, .slice _ _ _), (13, .int _ _), (14, .int _ _), (26, .bool _)] ⟨rfl, rfl, rfl, rfl, rfl, rfl, rfl, rfl, trivial⟩ fun σ => ?_
            refine gcond (b := _) rfl (fun hc26 => ?_) (fun hc26 => ?_)
            · 
              cases hc26
            · 
              have hp2 : ¬ (0 < k ∧ ¬ ltS (prevS (fpl fs) k) fs[k].pl.path) := by first | exact fun h9 => h9.2 (leS_f hkp hc26) | exact fun h9 => absurd h9.1 (by omega)
              refine gseq fun N21 hN21 => ?_
              refine greg_q (by kernel_rfl) (by kernel_rfl) ?_
              refine gq (y_fieldAddr_box fa61_0 rfl) rfl rfl rfl ?_
              refine gq (y_load Tryz.isAgg59 rfl (cell_box 0 rfl rfl)) rfl rfl rfl ?_
              refine gq (y_move (v := .int _ _) rfl) rfl rfl rfl ?_
              refine gq (y_prefix (m := k) Tryz.underlying59 Tryz.sizeOf85 rfl rfl (by omega) (by omega) rfl) rfl rfl rfl ?_
              refine gq (y_fieldAddr_box fa85_0 rfl) rfl rfl rfl ?_
              refine gq (y_load Tryz.isAgg9 rfl (cell_box 2 rfl rfl)) rfl rfl rfl ?_
              refine gq_pure (e_call (vs := [.slice _ _ _, .string _, _]) Tryz.func83 rfl (by kernel_rfl) rfl) (fun w hM => by have hc := clash_any w (some ad) k c (fs.take k) (rdl_take (hR.rd.base hM) k) (by simp; omega) (by simp; omega) fs[k].pl.path (-1) hpz hqz; exact hc) rfl rfl rfl ?_
              refine gq (y_assign (v := .bool _) rfl) rfl rfl rfl ?_
              refine gqs_nil ?_
              refine hN21 _ _ ?_
              refine gfrom [(1, .pointer _), (2, .pointer _), (3, .int _ _), (4, .pointer _), (12, .slice _ _ _), (13, .int _ _), (14, .int _ _), (43, .bool _)] ⟨rfl, rfl, rfl, rfl, rfl, rfl, rfl, rfl, trivial⟩ fun σ => ?_
              refine gcond (b := _) rfl (fun hc43 => ?_) (fun hc43 => ?_)
              · 
                have hC : treeC (fpl fs) k fs[k].pl = 7 := by rw [treeC, if_neg hp1, if_neg hp2, if_pos (by rw [← List.map_take]; exact hc43)]
                refine gseq fun N22 hN22 => ?_
                refine greg ?_
                refine gop (y_move (v := .int _ _) rfl) rfl rfl rfl ?_
                refine gop (y_build (vs := [(0, _), (1, .int _ _)]) (cells := #[_, _]) rfl (bd33_0_1 _ _)) rfl rfl rfl ?_
                refine gop_store 1 (v := .agg #[_, _]) (cs' := #[_, _]) rfl rfl Tryz.sizeOf33 rfl rfl rfl rfl (Nat.le_of_ble_eq_true rfl) rfl rfl ?_
                refine gops_nil ?_
                refine hN22 _ _ ?_
                refine gT [box b1 _, box b2 _, box b4 _] rfl ?_
                refine gfrom [(2, .pointer _)] ⟨rfl, trivial⟩ fun σ => ?_
                refine gret fun w1 hM => ?_
                refine ⟨_, res1 rfl (rc 1 (cs := [_, _]) hM rfl rfl Tryz.isAgg33 Tryz.sizeOf33 rfl), ?_⟩
                exact ⟨by rw [hF, tree_at hk1 hz hC (by decide)], hM.low⟩
              · 
                have hC : treeC (fpl fs) k fs[k].pl = (linesF fs[k].pl.lines).code := by rw [treeC, if_neg hp1, if_neg hp2, if_neg (by rw [← List.map_take, show clashF _ _ _ (List.map FileC.pl (fs.take k)) = false from hc43]; simp)]
                refine gskip ?_
                refine hN11 _ _ ?_
                refine gfrom [(1, .pointer _), (2, .pointer _), (3, .int _ _), (4, .pointer _), (12, .slice _ _ _), (13, .int _ _), (14, .int _ _)] ⟨rfl, rfl, rfl, rfl, rfl, rfl, rfl, trivial⟩ fun σ => ?_
                refine gseq fun N23 hN23 => ?_
                refine greg ?_
                refine gop (y_fieldAddr_box fa85_1 rfl) rfl rfl rfl ?_
                refine gop (y_load Tryz.isAgg22 rfl (cell_box 2 rfl rfl)) rfl rfl rfl ?_
                refine gop (y_move (v := .int _ _) rfl) rfl rfl rfl ?_
                refine gop_pure (e_call (vs := [.slice _ _ _, .int _ _]) Tryz.func28 rfl (by kernel_rfl) rfl) (fun w hM => linesSecond_any w _ _ _ (hRk.rd.base hM) (Nat.le_trans hRk.sb.len hRk.sb.max) (k : Int)) rfl rfl rfl ?_
                refine gop_alloc (cs := #[.int .i64 0, .int .i64 0]) Tryz.zeroValue33 rfl rfl (fun b5 hb5 => ?_)
                refine gop_store 3 (v := .agg #[_, _]) (cs' := #[_, _]) rfl rfl Tryz.sizeOf33 rfl rfl rfl rfl (Nat.le_of_ble_eq_true rfl) rfl rfl ?_
                refine gops_nil ?_
                refine hN23 _ _ ?_
                refine gT [box b1 _, box b2 _, box b4 _, box b5 _] rfl ?_
                refine gfrom [(1, .pointer _), (2, .pointer _), (5, .pointer _), (12, .slice _ _ _), (13, .int _ _), (14, .int _ _)] ⟨rfl, rfl, rfl, rfl, rfl, rfl, trivial⟩ fun σ => ?_
                refine gseq fun N24 hN24 => ?_
                refine greg ?_
                refine gop (y_loads (cs := [_, _]) Tryz.isAgg33 Tryz.sizeOf33 rfl rfl (cells_box 3 rfl)) rfl rfl rfl ?_
                refine gop (y_build (vs := []) (cells := #[.int .i64 0, .int .i64 0]) rfl bd33_) rfl rfl rfl ?_
                refine gop (y_bin (vx := .agg #[_, _]) (vy := .agg #[_, _]) rfl rfl (fun w => eg33 _ _ _ _ _ w) (fun w => ne33 _ _ _ _ w)) rfl rfl rfl ?_
                refine gops_nil ?_
                refine hN24 _ _ ?_
                refine gfrom [(1, .pointer _), (2, .pointer _), (5, .pointer _), (12, .slice _ _ _), (13, .int _ _), (14, .int _ _), (59, .bool _)] ⟨rfl, rfl, rfl, rfl, rfl, rfl, rfl, trivial⟩ fun σ => ?_
                refine gcond (b := _) rfl (fun hc59 => ?_) (fun hc59 => ?_)
                · 
                  replace hc59 := fault_ne.1 hc59
                  refine gseq fun N25 hN25 => ?_
                  refine greg ?_
                  refine gop (y_loads (cs := [_, _]) Tryz.isAgg33 Tryz.sizeOf33 rfl rfl (cells_box 3 rfl)) rfl rfl rfl ?_
                  refine gop_store 1 (v := .agg #[_, _]) (cs' := #[_, _]) rfl rfl Tryz.sizeOf33 rfl rfl rfl rfl (Nat.le_of_ble_eq_true rfl) rfl rfl ?_
                  refine gops_nil ?_
                  refine hN25 _ _ ?_
                  refine gT [box b1 _, box b2 _, box b4 _, box b5 _] rfl ?_
                  refine gfrom [(2, .pointer _)] ⟨rfl, trivial⟩ fun σ => ?_
                  refine gret fun w1 hM => ?_
                  refine ⟨_, res1 rfl (rc 1 (cs := [_, _]) hM rfl rfl Tryz.isAgg33 Tryz.sizeOf33 rfl), ?_⟩
                  exact ⟨by rw [hF, tree_at hk1 hz hC (sec_code hc59), secondF, if_pos (sec_ne hc59)], hM.low⟩
                · 
                  replace hc59 := fault_eq.1 hc59
                  have hC0 : treeC (fpl fs) k fs[k].pl = 0 := by rw [hC]; exact sec_zero hc59
                  refine gskip ?_
                  refine hN9 _ _ ?_
                  refine gfrom [(1, .pointer _), (2, .pointer _), (12, .slice _ _ _), (13, .int _ _), (14, .int _ _)] ⟨rfl, rfl, rfl, rfl, rfl, trivial⟩ fun σ => ?_
                  refine greg ?_
                  refine gop (y_add rfl rfl ⟨by omega, by omega⟩) rfl rfl rfl ?_
                  refine gop (y_move (v := .int _ _) rfl) rfl rfl rfl ?_
                  refine gops_nil ?_
                  refine gnext2 (k + 1) (by omega) (⟨by omega, fun j h hj => by rcases Nat.lt_succ_iff_lt_or_eq.1 hj with h1 | rfl; exact hz j h h1; exact hC0⟩) ⟨rfl, trivial⟩ ⟨rfl, rfl, rfl, rfl, trivial⟩ ⟨_, rfl⟩
      · 
        replace hc15 := of_decide_eq_false hc15
        have hF2 : treeF (fpl fs) = ⟨0, 0⟩ := by rw [hF]; exact scan_ok fun j hj => by rw [List.getElem_map]; exact hz j (by simpa using hj) (by simp at hj; omega)
        refine gexit ?_
        refine hN5 _ _ ?_
        refine gfrom [(2, .pointer _)] ⟨rfl, trivial⟩ fun σ => ?_
        refine gseq fun N26 hN26 => ?_
        refine greg ?_
        refine gop (y_build (vs := []) (cells := #[.int .i64 0, .int .i64 0]) rfl bd33_) rfl rfl rfl ?_
        refine gop_store 1 (v := .agg #[_, _]) (cs' := #[_, _]) rfl rfl Tryz.sizeOf33 rfl rfl rfl rfl (Nat.le_of_ble_eq_true rfl) rfl rfl ?_
        refine gops_nil ?_
        refine hN26 _ _ ?_
        refine gT [box b1 _, box b2 _] rfl ?_
        refine gfrom [(2, .pointer _)] ⟨rfl, trivial⟩ fun σ => ?_
        refine gret fun w1 hM => ?_
        refine ⟨_, res1 rfl (rc 1 (cs := [_, _]) hM rfl rfl Tryz.isAgg33 Tryz.sizeOf33 rfl), ?_⟩
        exact ⟨by rw [hF2], hM.low⟩
set_option maxHeartbeats 2000000 in
theorem treeSecond_any (w : World) (A : Option Addr) (c : Nat) (fs : List FileC) (hR : TreeR w 0 A c fs) (i : Int) : Calls Tryz.prog 36 #[.agg #[.slice A fs.length c], .int .i64 i] w fun e w' => e = .returned (fv (secondF (treeF (fpl fs)) i)) ∧ Below w.heap.size w w' := by
  refine gcalls Tryz.func36 rfl Tryz.ntmps36 (Nat.le_of_ble_eq_true rfl) ?_
  refine gfrom [(0, .agg #[_]), (1, .int _ _)] ⟨rfl, rfl, trivial⟩ fun σ => ?_
  refine gseq fun N1 hN1 => ?_
  refine greg ?_
  refine gop_box (v := .agg #[_]) (cs := #[_]) rfl rfl rfl (fun b2 hb2 => ?_)
  refine gop_alloc (cs := #[.int .i64 0, .int .i64 0]) Tryz.zeroValue33 rfl rfl (fun b4 hb4 => ?_)
  refine gops_nil ?_
  refine hN1 _ _ ?_
  refine gT [box b2 _, box b4 _] rfl ?_
  refine gfrom [(1, .int _ _), (2, .pointer _), (4, .pointer _)] ⟨rfl, rfl, rfl, trivial⟩ fun σ => ?_
  refine gseq fun N2 hN2 => ?_
  refine gseq fun N3 hN3 => ?_
  refine greg ?_
  refine gop (y_loads (cs := [_]) Tryz.isAgg61 Tryz.sizeOf61 rfl rfl (cells_box 0 rfl)) rfl rfl rfl ?_
  refine gop_pure (e_call (vs := [.agg #[_]]) Tryz.func45 rfl (by kernel_rfl) rfl) (fun w hM => treeValidate_any w A c fs (hR.base hM)) rfl rfl rfl ?_
  refine gop_alloc (cs := #[.int .i64 0, .int .i64 0]) Tryz.zeroValue33 rfl rfl (fun b5 hb5 => ?_)
  refine gop_store 2 (v := .agg #[_, _]) (cs' := #[_, _]) rfl rfl Tryz.sizeOf33 rfl rfl rfl rfl (Nat.le_of_ble_eq_true rfl) rfl rfl ?_
  refine gops_nil ?_
  refine hN3 _ _ ?_
  refine gT [box b2 _, box b4 _, box b5 _] rfl ?_
  refine gfrom [(1, .int _ _), (4, .pointer _), (5, .pointer _)] ⟨rfl, rfl, rfl, trivial⟩ fun σ => ?_
  refine gseq fun N4 hN4 => ?_
  refine greg ?_
  refine gop (y_loads (cs := [_, _]) Tryz.isAgg33 Tryz.sizeOf33 rfl rfl (cells_box 2 rfl)) rfl rfl rfl ?_
  refine gop (y_build (vs := []) (cells := #[.int .i64 0, .int .i64 0]) rfl bd33_) rfl rfl rfl ?_
  refine gop (y_bin (vx := .agg #[_, _]) (vy := .agg #[_, _]) rfl rfl (fun w => eg33 _ _ _ _ _ w) (fun w => ne33 _ _ _ _ w)) rfl rfl rfl ?_
  refine gops_nil ?_
  refine hN4 _ _ ?_
  refine gfrom [(1, .int _ _), (4, .pointer _), (5, .pointer _), (10, .bool _)] ⟨rfl, rfl, rfl, rfl, trivial⟩ fun σ => ?_
  refine gcond (b := _) rfl (fun hc10 => ?_) (fun hc10 => ?_)
  · 
    replace hc10 := fault_ne.1 hc10
    refine gseq fun N5 hN5 => ?_
    refine greg ?_
    refine gop (y_fieldAddr_box fa33_0 rfl) rfl rfl rfl ?_
    refine gop (y_load Tryz.isAgg3 rfl (cell_box 2 rfl rfl)) rfl rfl rfl ?_
    refine gop (y_move (v := .int _ _) rfl) rfl rfl rfl ?_
    refine gop (y_build (vs := [(0, .int _ _), (1, .int _ _)]) (cells := #[_, _]) rfl (bd33_0_1 _ _)) rfl rfl rfl ?_
    refine gop_store 1 (v := .agg #[_, _]) (cs' := #[_, _]) rfl rfl Tryz.sizeOf33 rfl rfl rfl rfl (Nat.le_of_ble_eq_true rfl) rfl rfl ?_
    refine gops_nil ?_
    refine hN5 _ _ ?_
    refine gT [box b2 _, box b4 _, box b5 _] rfl ?_
    refine gfrom [(4, .pointer _)] ⟨rfl, trivial⟩ fun σ => ?_
    refine gret fun w1 hM => ?_
    refine ⟨_, res1 rfl (rc 1 (cs := [_, _]) hM rfl rfl Tryz.isAgg33 Tryz.sizeOf33 rfl), ?_⟩
    exact ⟨by rw [secondF, if_pos hc10], hM.low⟩
  · 
    replace hc10 := fault_eq.1 hc10
    refine gskip ?_
    refine hN2 _ _ ?_
    refine gfrom [(4, .pointer _)] ⟨rfl, trivial⟩ fun σ => ?_
    refine gseq fun N6 hN6 => ?_
    refine greg ?_
    refine gop (y_build (vs := []) (cells := #[.int .i64 0, .int .i64 0]) rfl bd33_) rfl rfl rfl ?_
    refine gop_store 1 (v := .agg #[_, _]) (cs' := #[_, _]) rfl rfl Tryz.sizeOf33 rfl rfl rfl rfl (Nat.le_of_ble_eq_true rfl) rfl rfl ?_
    refine gops_nil ?_
    refine hN6 _ _ ?_
    refine gT [box b2 _, box b4 _, box b5 _] rfl ?_
    refine gfrom [(4, .pointer _)] ⟨rfl, trivial⟩ fun σ => ?_
    refine gret fun w1 hM => ?_
    refine ⟨_, res1 rfl (rc 1 (cs := [_, _]) hM rfl rfl Tryz.isAgg33 Tryz.sizeOf33 rfl), ?_⟩
    exact ⟨by rw [secondF, if_neg (by simp [hc10])], hM.low⟩
end Go.Proofs.YtbkameioedmlkaaGreatDoor
namespace Go.Proofs.YtbkameioedmlkaaGreatDoor
open Go.RowKit Go.Cf
set_option maxRecDepth 10000
theorem bd70_0_1_2 (x1 : Int) (x2 : ByteArray) (x3 : Int) : Tryz.prog.built 70 [(0, .int .i64 x1), (1, .string x2), (2, .int .i64 x3)] = some #[.int .i64 x1, .string x2, .int .i64 x3] := by kernel_rfl
theorem el70 : Elem Tryz.prog 70 3 32 := elem_of (z := .agg #[.int .i64 0, .string .empty, .int .i64 0]) (by kernel_rfl) rfl (by decide)
set_option maxHeartbeats 1000000 in
theorem isUser_any (w : World) (n : Int) : Calls Tryz.prog 43 #[.int .i64 n] w fun e w' => e = .returned (.bool (decide (0 ≤ n) && decide (n ≤ 7))) ∧ Below w.heap.size w w' := by
  refine gcalls Tryz.func43 rfl Tryz.ntmps43 (Nat.le_of_ble_eq_true rfl) ?_
  refine gfrom [(0, .int _ _)] ⟨rfl, trivial⟩ fun σ => ?_
  refine gseq fun N1 hN1 => ?_
  refine greg ?_
  refine gop (y_assign (v := .bool _) rfl) rfl rfl rfl ?_
  refine gops_nil ?_
  refine hN1 _ _ ?_
  refine gfrom [(0, .int _ _)] ⟨rfl, trivial⟩ fun σ => ?_
  refine gseq fun N2 hN2 => ?_
  refine greg ?_
  refine gop (y_move (v := .int _ _) rfl) rfl rfl rfl ?_
  refine gop (y_geq rfl rfl) rfl rfl rfl ?_
  refine gop (y_move (v := .bool _) rfl) rfl rfl rfl ?_
  refine gop_if (want := true) rfl rfl rfl rfl rfl rfl (fun hg5 => ?_) (fun hg5 => ?_)
  · 
    have hg5d := of_decide_eq_true hg5
    have h9 : decide (0 ≤ n) = true := decide_eq_true (by omega)
    refine gop (y_bare (y_move (v := .int _ _) rfl)) rfl rfl rfl ?_
    refine gop_on rfl rfl rfl rfl hg5 ?_
    refine gop (y_bare (y_leq rfl rfl)) rfl rfl rfl ?_
    refine gop (y_pick_t (v := .bool _) rfl hg5 rfl) rfl rfl rfl ?_
    refine gop (y_assign (v := .bool _) rfl) rfl rfl rfl ?_
    refine gops_nil ?_
    refine hN2 _ _ ?_
    refine gfrom [(2, .bool _)] ⟨rfl, trivial⟩ fun σ => ?_
    refine gret fun w1 hM => ?_
    refine ⟨_, res1 rfl (rt (v := .bool _) rfl), ?_⟩
    exact ⟨by rw [h9]; rfl, hM.low⟩
  · 
    have hg5d := of_decide_eq_false hg5
    have h9 : decide (0 ≤ n) = false := decide_eq_false (by omega)
    refine gop_off rfl rfl rfl rfl hg5 rfl rfl ?_
    refine gop (y_pick_f (v := .bool _) rfl hg5 rfl) rfl rfl rfl ?_
    refine gop (y_assign (v := .bool _) rfl) rfl rfl rfl ?_
    refine gops_nil ?_
    refine hN2 _ _ ?_
    refine gfrom [(2, .bool _)] ⟨rfl, trivial⟩ fun σ => ?_
    refine gret fun w1 hM => ?_
    refine ⟨_, res1 rfl (rt (v := .bool _) rfl), ?_⟩
    exact ⟨by rw [h9]; rfl, hM.low⟩
set_option maxHeartbeats 2000000 in
theorem describe_any (w : World) (A : Option Addr) (c : Nat) (fs : List FileC) (hR : TreeR w 0 A c fs) (v : VTree (fpl fs)) (path : ByteArray) : Calls Tryz.prog 37 #[.agg #[.slice A fs.length c], .string path] w fun e w' => e = .returned (.int .i64 (descP (fpl fs) path)) ∧ Below w.heap.size w w' := by
  have hsl := hR.sb.len
  have hsm := hR.sb.max
  have hmx : maxLen = 9223372036854775807 := rfl
  refine gcalls Tryz.func37 rfl Tryz.ntmps37 (Nat.le_of_ble_eq_true rfl) ?_
  refine gfrom [(0, .agg #[_]), (1, .string _)] ⟨rfl, rfl, trivial⟩ fun σ => ?_
  refine gseq fun N1 hN1 => ?_
  refine greg ?_
  refine gop_box (v := .agg #[_]) (cs := #[_]) rfl rfl rfl (fun b2 hb2 => ?_)
  refine gop (y_assign (v := .int _ _) rfl) rfl rfl rfl ?_
  refine gops_nil ?_
  refine hN1 _ _ ?_
  refine gT [box b2 _] rfl ?_
  refine gfrom [(1, .string _), (2, .pointer _)] ⟨rfl, rfl, trivial⟩ fun σ => ?_
  refine gseq fun N2 hN2 => ?_
  refine greg ?_
  refine gop (y_fieldAddr_box fa61_0 rfl) rfl rfl rfl ?_
  refine gop (y_load Tryz.isAgg59 rfl (cell_box 0 rfl rfl)) rfl rfl rfl ?_
  refine gop (y_move (v := .string _) rfl) rfl rfl rfl ?_
  refine gop_got (fun v T' => T' = [] ∧ ∃ (k : Nat) (b : Bool), v = .tuple #[.int .i64 (k : Int), .bool b] ∧ (b = true → ∃ h : k < fs.length, fs[k].pl.path = path) ∧ (b = false → ∀ f ∈ fs, f.pl.path ≠ path)) (e_call (vs := [.slice _ _ _, .string _]) Tryz.func69 rfl (by kernel_rfl) rfl) (fun w hM => (treeFind_any w A c fs (hR.base hM) v path).mono fun _ _ ⟨k, b, h1, h2, h3, h4⟩ => ⟨_, [], h1, ⟨rfl, k, b, rfl, h3, h4⟩, (Mem.start w).call h2⟩) rfl rfl rfl ?_
  rintro _ _ ⟨rfl, k, b, rfl, hf1, hf2⟩
  refine gop (y_move (v := .tuple #[.int _ _, .bool _]) rfl) rfl rfl rfl ?_
  refine gop (y_extract (v := .int _ _) rfl rfl) rfl rfl rfl ?_
  refine gop (y_extract (v := .bool _) rfl rfl) rfl rfl rfl ?_
  refine gop (y_assign (v := .int _ _) rfl) rfl rfl rfl ?_
  refine gop (y_assign (v := .bool _) rfl) rfl rfl rfl ?_
  refine gops_nil ?_
  refine hN2 _ _ ?_
  refine gfrom [(2, .pointer _), (5, .int _ _), (6, .bool _)] ⟨rfl, rfl, rfl, trivial⟩ fun σ => ?_
  refine gseq fun N3 hN3 => ?_
  refine gseq fun N4 hN4 => ?_
  refine greg ?_
  refine gop (y_move (v := .bool _) rfl) rfl rfl rfl ?_
  refine gop (y_not rfl) rfl rfl rfl ?_
  refine gops_nil ?_
  refine hN4 _ _ ?_
  refine gfrom [(2, .pointer _), (5, .int _ _), (17, .bool _)] ⟨rfl, rfl, rfl, trivial⟩ fun σ => ?_
  refine gcond (b := _) rfl (fun hc17 => ?_) (fun hc17 => ?_)
  · 
    replace hc17 := not_t hc17
    have hD : descP (fpl fs) path = -1 := desc_none (hf2 (by simpa using hc17))
    refine gseq fun N5 hN5 => ?_
    refine greg ?_
    refine gop (y_assign (v := .int _ _) rfl) rfl rfl rfl ?_
    refine gops_nil ?_
    refine hN5 _ _ ?_
    refine gfrom [(4, .int _ _)] ⟨rfl, trivial⟩ fun σ => ?_
    refine gret fun w1 hM => ?_
    refine ⟨_, res1 rfl (rt (v := .int _ _) rfl), ?_⟩
    exact ⟨by rw [hD], hM.low⟩
  · 
    replace hc17 := not_f hc17
    obtain ⟨hk1, hkp⟩ := hf1 (by simpa using hc17)
    obtain ⟨ad, rfl, -, hca⟩ := hR.rd.at_ hk1
    have hRk := hR.each _ (List.getElem_mem hk1)
    have hlz : linesF fs[k].pl.lines = ⟨0, 0⟩ := v.lines _ (List.mem_map_of_mem (List.getElem_mem hk1))
    have hD : descP (fpl fs) path = strD fs[k].pl.lines := desc_at v hk1 hkp
    refine gskip ?_
    refine hN3 _ _ ?_
    refine gfrom [(2, .pointer _), (5, .int _ _)] ⟨rfl, rfl, trivial⟩ fun σ => ?_
    refine gseq fun N6 hN6 => ?_
    refine greg ?_
    refine gop (y_fieldAddr_box fa61_0 rfl) rfl rfl rfl ?_
    refine gop (y_load Tryz.isAgg59 rfl (cell_box 0 rfl rfl)) rfl rfl rfl ?_
    refine gop (y_move (v := .int _ _) rfl) rfl rfl rfl ?_
    refine gop (y_indexAddr (m := k) Tryz.underlying59 Tryz.sizeOf85 rfl rfl (by omega) (by omega) (by omega)) rfl rfl rfl ?_
    refine gop (y_fieldAddr_add fa85_1 rfl) rfl rfl rfl ?_
    refine gop (y_load Tryz.isAgg22 rfl (cell_base (hca 1 _ rfl))) rfl rfl rfl ?_
    refine gop_pure (e_call (vs := [.slice _ _ _]) Tryz.func47 rfl (by kernel_rfl) rfl) (fun w hM => dStr_any w _ _ fs[k].pl.lines (hRk.rd.base hM) (linesF_len hlz) (linesF_sizes hlz)) rfl rfl rfl ?_
    refine gop (y_move (v := .tuple #[.int _ _, .agg #[_, _]]) rfl) rfl rfl rfl ?_
    refine gop (y_extract (v := .int _ _) rfl rfl) rfl rfl rfl ?_
    refine gop (y_extract (v := .agg #[_, _]) rfl rfl) rfl rfl rfl ?_
    refine gop_alloc (cs := #[.int .i64 0, .int .i64 0]) Tryz.zeroValue33 rfl rfl (fun b8 hb8 => ?_)
    refine gop (y_assign (v := .int _ _) rfl) rfl rfl rfl ?_
    refine gop_store 1 (v := .agg #[_, _]) (cs' := #[_, _]) rfl rfl Tryz.sizeOf33 rfl rfl rfl rfl (Nat.le_of_ble_eq_true rfl) rfl rfl ?_
    refine gops_nil ?_
    refine hN6 _ _ ?_
    refine gT [box b2 _, box b8 _] rfl ?_
    refine gfrom [(7, .int _ _)] ⟨rfl, trivial⟩ fun σ => ?_
    refine gseq fun N7 hN7 => ?_
    refine greg ?_
    refine gop (y_move (v := .int _ _) rfl) rfl rfl rfl ?_
    refine gop (y_assign (v := .int _ _) rfl) rfl rfl rfl ?_
    refine gops_nil ?_
    refine hN7 _ _ ?_
    refine gfrom [(4, .int _ _)] ⟨rfl, trivial⟩ fun σ => ?_
    refine gret fun w1 hM => ?_
    refine ⟨_, res1 rfl (rt (v := .int _ _) rfl), ?_⟩
    exact ⟨by rw [hD], hM.low⟩
set_option maxHeartbeats 8000000 in
theorem approve_any (w : World) (A : Option Addr) (c : Nat) (fs : List FileC) (hR : TreeR w 0 A c fs) (u : Int) (PA : Option Addr) (pc : Nat) (ps : List ByteArray) (hps : Rdl w 0 1 strCells PA ps) (hpl : ps.length ≤ pc) (hpm : pc ≤ maxLen) :
    Calls Tryz.prog 26 #[.agg #[.slice A fs.length c], .int .i64 u, .slice PA ps.length pc] w fun e w' => ∃ v T', e = .returned (.tuple #[v, fv (approveF (fpl fs) u ps)]) ∧ T' = [rowl apprCells w.heap.size 70 3 (v) (approveV (fpl fs) u ps)] ∧ Mem w T' w' := by
  have hsl := hR.sb.len
  have hsm := hR.sb.max
  have hmx : maxLen = 9223372036854775807 := rfl
  refine gcalls Tryz.func26 rfl Tryz.ntmps26 (Nat.le_of_ble_eq_true rfl) ?_
  refine gfrom [(0, .agg #[_]), (1, .int _ _), (2, .slice _ _ _)] ⟨rfl, rfl, rfl, trivial⟩ fun σ => ?_
  refine gseq fun N1 hN1 => ?_
  refine greg ?_
  refine gop_box (v := .agg #[_]) (cs := #[_]) rfl rfl rfl (fun b3 hb3 => ?_)
  refine gop (y_assign (v := .slice _ _ _) rfl) rfl rfl rfl ?_
  refine gop_alloc (cs := #[.int .i64 0, .int .i64 0]) Tryz.zeroValue33 rfl rfl (fun b7 hb7 => ?_)
  refine gops_nil ?_
  refine hN1 _ _ ?_
  refine gT [box b3 _, box b7 _] rfl ?_
  refine gfrom [(1, .int _ _), (2, .slice _ _ _), (3, .pointer _), (7, .pointer _)] ⟨rfl, rfl, rfl, rfl, trivial⟩ fun σ => ?_
  refine gseq fun N2 hN2 => ?_
  refine gseq fun N3 hN3 => ?_
  refine greg ?_
  refine gop (y_loads (cs := [_]) Tryz.isAgg61 Tryz.sizeOf61 rfl rfl (cells_box 0 rfl)) rfl rfl rfl ?_
  refine gop_pure (e_call (vs := [.agg #[_], _]) Tryz.func36 rfl (by kernel_rfl) rfl) (fun w hM => treeSecond_any w A c fs (hR.base hM) (-2)) rfl rfl rfl ?_
  refine gop_alloc (cs := #[.int .i64 0, .int .i64 0]) Tryz.zeroValue33 rfl rfl (fun b8 hb8 => ?_)
  refine gop_store 2 (v := .agg #[_, _]) (cs' := #[_, _]) rfl rfl Tryz.sizeOf33 rfl rfl rfl rfl (Nat.le_of_ble_eq_true rfl) rfl rfl ?_
  refine gops_nil ?_
  refine hN3 _ _ ?_
  refine gT [box b3 _, box b7 _, box b8 _] rfl ?_
  refine gfrom [(1, .int _ _), (2, .slice _ _ _), (3, .pointer _), (7, .pointer _), (8, .pointer _)] ⟨rfl, rfl, rfl, rfl, rfl, trivial⟩ fun σ => ?_
  refine gseq fun N4 hN4 => ?_
  refine greg ?_
  refine gop (y_loads (cs := [_, _]) Tryz.isAgg33 Tryz.sizeOf33 rfl rfl (cells_box 2 rfl)) rfl rfl rfl ?_
  refine gop (y_build (vs := []) (cells := #[.int .i64 0, .int .i64 0]) rfl bd33_) rfl rfl rfl ?_
  refine gop (y_bin (vx := .agg #[_, _]) (vy := .agg #[_, _]) rfl rfl (fun w => eg33 _ _ _ _ _ w) (fun w => ne33 _ _ _ _ w)) rfl rfl rfl ?_
  refine gops_nil ?_
  refine hN4 _ _ ?_
  refine gfrom [(1, .int _ _), (2, .slice _ _ _), (3, .pointer _), (7, .pointer _), (8, .pointer _), (16, .bool _)] ⟨rfl, rfl, rfl, rfl, rfl, rfl, trivial⟩ fun σ => ?_
  refine gcond (b := _) rfl (fun hc16 => ?_) (fun hc16 => ?_)
  · 
    replace hc16 := fault_ne.1 hc16
    have hF : approveF (fpl fs) u ps = secondF (treeF (fpl fs)) (-2) := by rw [approveF, if_pos (sec_ne hc16)]
    refine gseq fun N5 hN5 => ?_
    refine greg_e1 [] [(1, room b7 33 2)] (by kernel_rfl) ?_
    refine ge_take 0 (TK := [box b3 _, room b7 33 2, box b8 _]) rfl (by kernel_rfl) (by kernel_rfl) (by kernel_rfl) #[false, true, false] (by kernel_rfl) rfl (y_loads (cs := [_, _]) Tryz.isAgg33 Tryz.sizeOf33 rfl rfl (cells_box 2 rfl)) rfl rfl rfl (weak_room 1 rfl rfl) (listed' := #[true, false, false]) rfl ?_
    refine ge_take 1 (TK := [box b3 _, room b7 33 2, box b8 _]) rfl (by kernel_rfl) (by kernel_rfl) (by kernel_rfl) #[true, false, false] (by kernel_rfl) rfl (y_assign (v := .slice _ _ _) rfl) rfl rfl rfl (weak_room 1 rfl rfl) (listed' := #[true, true, false]) rfl ?_
    refine ge_one 2 (k' := 0) (listed' := #[true, true, true]) (by kernel_rfl) rfl rfl rfl ?_
    refine gop_store 1 (v := .agg #[_, _]) (cs' := #[_, _]) rfl rfl Tryz.sizeOf33 rfl rfl rfl rfl (Nat.le_of_ble_eq_true rfl) rfl rfl ?_
    refine gops_nil ?_
    refine ge_fin (TK := [box b3 _, room b7 33 2, box b8 _]) rfl (weak_room 1 rfl rfl) ?_
    refine ge_done (by kernel_rfl) ?_
    refine hN5 _ _ ?_
    refine gT [box b3 _, box b7 _, box b8 _] rfl ?_
    refine gfrom [(6, .slice _ _ _), (7, .pointer _)] ⟨rfl, rfl, trivial⟩ fun σ => ?_
    refine gret fun w1 hM => ?_
    refine ⟨_, res2 rfl (rt (v := .slice _ _ _) rfl) (rc 1 (cs := [_, _]) hM rfl rfl Tryz.isAgg33 Tryz.sizeOf33 rfl), ?_⟩
    exact ⟨_, _, by rw [hF], by rw [approveV, if_neg (by rw [hF]; exact hc16)]; rfl, (mem_nilrow apprCells 70 3 hM).dropTo 3 rfl⟩
  · 
    replace hc16 := fault_eq.1 hc16
    have htz : treeF (fpl fs) = ⟨0, 0⟩ := sec_ok hc16 (by decide)
    have v := treeF_valid htz
    have hA0 : ¬ treeF (fpl fs) ≠ ⟨0, 0⟩ := fun h9 => h9 htz
    refine gskip ?_
    refine hN2 _ _ ?_
    refine gfrom [(1, .int _ _), (2, .slice _ _ _), (3, .pointer _), (7, .pointer _)] ⟨rfl, rfl, rfl, rfl, trivial⟩ fun σ => ?_
    refine gseq fun N6 hN6 => ?_
    refine gseq fun N7 hN7 => ?_
    refine greg ?_
    refine gop (y_move (v := .int _ _) rfl) rfl rfl rfl ?_
    refine gop_pure (e_call (vs := [.int _ _]) Tryz.func43 rfl (by kernel_rfl) rfl) (fun w hM => isUser_any w u) rfl rfl rfl ?_
    refine gop (y_not rfl) rfl rfl rfl ?_
    refine gops_nil ?_
    refine hN7 _ _ ?_
    refine gfrom [(1, .int _ _), (2, .slice _ _ _), (3, .pointer _), (7, .pointer _), (20, .bool _)] ⟨rfl, rfl, rfl, rfl, rfl, trivial⟩ fun σ => ?_
    refine gcond (b := _) rfl (fun hc20 => ?_) (fun hc20 => ?_)
    · 
      replace hc20 := not_t hc20
      have hF : approveF (fpl fs) u ps = ⟨3, -3⟩ := by rw [approveF, if_neg hA0, if_pos (by simp at hc20; omega)]
      refine gseq fun N8 hN8 => ?_
      refine greg ?_
      refine gop (y_build (vs := [(0, _), (1, _)]) (cells := #[_, _]) rfl (bd33_0_1 _ _)) rfl rfl rfl ?_
      refine gop (y_assign (v := .slice _ _ _) rfl) rfl rfl rfl ?_
      refine gop_store 1 (v := .agg #[_, _]) (cs' := #[_, _]) rfl rfl Tryz.sizeOf33 rfl rfl rfl rfl (Nat.le_of_ble_eq_true rfl) rfl rfl ?_
      refine gops_nil ?_
      refine hN8 _ _ ?_
      refine gT [box b3 _, box b7 _, box b8 _] rfl ?_
      refine gfrom [(6, .slice _ _ _), (7, .pointer _)] ⟨rfl, rfl, trivial⟩ fun σ => ?_
      refine gret fun w1 hM => ?_
      refine ⟨_, res2 rfl (rt (v := .slice _ _ _) rfl) (rc 1 (cs := [_, _]) hM rfl rfl Tryz.isAgg33 Tryz.sizeOf33 rfl), ?_⟩
      exact ⟨_, _, by rw [hF], by rw [approveV, if_neg (by rw [hF]; decide)]; rfl, (mem_nilrow apprCells 70 3 hM).dropTo 3 rfl⟩
    · 
      replace hc20 := not_f hc20
      have hA1 : ¬ (u < 0 ∨ 7 < u) := by simp at hc20; omega
      refine gskip ?_
      refine hN6 _ _ ?_
      refine gfrom [(1, .int _ _), (2, .slice _ _ _), (3, .pointer _), (7, .pointer _)] ⟨rfl, rfl, rfl, rfl, trivial⟩ fun σ => ?_
      refine gseq fun N9 hN9 => ?_
      refine gseq fun N10 hN10 => ?_
      refine greg ?_
      refine gop (y_move (v := .slice _ _ _) rfl) rfl rfl rfl ?_
      refine gop (y_len Tryz.underlying22 rfl) rfl rfl rfl ?_
      refine gop (y_gtr rfl rfl) rfl rfl rfl ?_
      refine gops_nil ?_
      refine hN10 _ _ ?_
      refine gfrom [(1, .int _ _), (2, .slice _ _ _), (3, .pointer _), (7, .pointer _), (24, .bool _)] ⟨rfl, rfl, rfl, rfl, rfl, trivial⟩ fun σ => ?_
      refine gcond (b := _) rfl (fun hc24 => ?_) (fun hc24 => ?_)
      · 
        replace hc24 := of_decide_eq_true hc24
        have hF : approveF (fpl fs) u ps = ⟨2, -1⟩ := by rw [approveF, if_neg hA0, if_neg hA1, if_pos (by omega)]
        refine gseq fun N11 hN11 => ?_
        refine greg ?_
        refine gop (y_build (vs := [(0, _), (1, _)]) (cells := #[_, _]) rfl (bd33_0_1 _ _)) rfl rfl rfl ?_
        refine gop (y_assign (v := .slice _ _ _) rfl) rfl rfl rfl ?_
        refine gop_store 1 (v := .agg #[_, _]) (cs' := #[_, _]) rfl rfl Tryz.sizeOf33 rfl rfl rfl rfl (Nat.le_of_ble_eq_true rfl) rfl rfl ?_
        refine gops_nil ?_
        refine hN11 _ _ ?_
        refine gT [box b3 _, box b7 _, box b8 _] rfl ?_
        refine gfrom [(6, .slice _ _ _), (7, .pointer _)] ⟨rfl, rfl, trivial⟩ fun σ => ?_
        refine gret fun w1 hM => ?_
        refine ⟨_, res2 rfl (rt (v := .slice _ _ _) rfl) (rc 1 (cs := [_, _]) hM rfl rfl Tryz.isAgg33 Tryz.sizeOf33 rfl), ?_⟩
        exact ⟨_, _, by rw [hF], by rw [approveV, if_neg (by rw [hF]; decide)]; rfl, (mem_nilrow apprCells 70 3 hM).dropTo 3 rfl⟩
      · 
        replace hc24 := of_decide_eq_false hc24
        have hFS : approveF (fpl fs) u ps = scan okPath ps := by rw [approveF, if_neg hA0, if_neg hA1, if_neg (by omega)]
        refine gskip ?_
        refine hN9 _ _ ?_
        refine gfrom [(1, .int _ _), (2, .slice _ _ _), (3, .pointer _), (7, .pointer _)] ⟨rfl, rfl, rfl, rfl, trivial⟩ fun σ => ?_
        refine gseq fun N12 hN12 => ?_
        refine greg ?_
        refine gop (y_assign (v := .slice _ _ _) rfl) rfl rfl rfl ?_
        refine gops_nil ?_
        refine hN12 _ _ ?_
        refine gfrom [(1, .int _ _), (2, .slice _ _ _), (3, .pointer _), (7, .pointer _), (9, .slice _ _ _)] ⟨rfl, rfl, rfl, rfl, rfl, trivial⟩ fun σ => ?_
        refine gseq fun N13 hN13 => ?_
        refine gseq fun N14 hN14 => ?_
        refine greg ?_
        refine gop (y_move (v := .slice _ _ _) rfl) rfl rfl rfl ?_
        refine gop (y_len Tryz.underlying22 rfl) rfl rfl rfl ?_
        refine gop (y_move (v := .int _ _) rfl) rfl rfl rfl ?_
        refine gops_nil ?_
        refine hN14 _ _ ?_
        refine gfrom [(1, .int _ _), (3, .pointer _), (7, .pointer _), (9, .slice _ _ _), (26, .slice _ _ _), (27, .int _ _), (28, .int _ _)] ⟨rfl, rfl, rfl, rfl, rfl, rfl, rfl, trivial⟩ fun σ => ?_
        refine gblock ?_
        refine gnilrow apprCells 70 3 ?_
        refine gfrom2 [(9, .slice _ _ _), (28, .int _ _)] [(1, .int _ _), (3, .pointer _), (7, .pointer _), (26, .slice _ _ _), (27, .int _ _)] ⟨rfl, rfl, trivial⟩ ⟨rfl, rfl, rfl, rfl, rfl, trivial⟩ fun σ => ?_
        refine gloop2 (G := Nat × Option Addr × Nat) (fun (k, Av, cv) => k ≤ ps.length ∧ ∀ j (h : j < ps.length), j < k → okPath j ps[j] = 0) (fun (k, Av, cv) => ps.length - k) (fun (k, Av, cv) => [(9, .slice Av (approveL (fpl fs) u (ps.take k)).length cv), (28, .int .i64 (k : Int))]) (fun (k, Av, cv) => [(3, rowl apprCells w.heap.size 70 3 (.slice Av (approveL (fpl fs) u (ps.take k)).length cv) (approveL (fpl fs) u (ps.take k)))]) ((0, none, 0)) ?h0 ⟨rfl, rfl, trivial⟩ ⟨rfl, rfl, rfl, rfl, rfl, trivial⟩ rfl ?round
        case h0 => exact ⟨Nat.zero_le _, fun _ _ h => absurd h (Nat.not_lt_zero _)⟩
        case round =>
          rintro ⟨k, Av, cv⟩ hφ σ
          obtain ⟨hk, hz⟩ : k ≤ ps.length ∧ ∀ j (h : j < ps.length), j < k → okPath j ps[j] = 0 := hφ
          refine gT [box b3 _, box b7 _, box b8 _, rowl _ _ _ _ _ _] rfl ?_
          refine gseq fun N15 hN15 => ?_
          refine greg ?_
          refine gop (y_lss rfl rfl) rfl rfl rfl ?_
          refine gops_nil ?_
          refine hN15 _ _ ?_
          refine gfrom [(1, .int _ _), (3, .pointer _), (7, .pointer _), (9, .slice Av _ cv), (26, .slice _ _ _), (27, .int _ _), (28, .int _ _), (29, .bool _)] ⟨rfl, rfl, rfl, rfl, rfl, rfl, rfl, rfl, trivial⟩ fun σ => ?_
          refine gseq fun N16 hN16 => ?_
          refine gcond (b := _) rfl (fun hc29 => ?_) (fun hc29 => ?_)
          · 
            replace hc29 := of_decide_eq_true hc29
            have hk1 : k < ps.length := by omega
            obtain ⟨ad, rfl, -, hca⟩ := hps.at_ hk1
            refine gskip ?_
            refine hN16 _ _ ?_
            refine gfrom [(1, .int _ _), (3, .pointer _), (7, .pointer _), (9, .slice Av _ cv), (26, .slice _ _ _), (27, .int _ _), (28, .int _ _)] ⟨rfl, rfl, rfl, rfl, rfl, rfl, rfl, trivial⟩ fun σ => ?_
            refine gseq fun N17 hN17 => ?_
            refine gblock ?_
            refine gseq fun N18 hN18 => ?_
            refine greg ?_
            refine gop (y_move (v := .int _ _) rfl) rfl rfl rfl ?_
            refine gop (y_indexAddr (m := k) Tryz.underlying22 Tryz.sizeOf9 rfl rfl (by omega) (by omega) (by omega)) rfl rfl rfl ?_
            refine gop (y_load Tryz.isAgg9 rfl (cell_base (hca 0 _ rfl))) rfl rfl rfl ?_
            refine gop (y_assign (v := .int _ _) rfl) rfl rfl rfl ?_
            refine gop (y_assign (v := .string _) rfl) rfl rfl rfl ?_
            refine gops_nil ?_
            refine hN18 _ _ ?_
            refine gfrom [(1, .int _ _), (3, .pointer _), (7, .pointer _), (9, .slice Av _ cv), (10, .int _ _), (11, .string _), (26, .slice _ _ _), (27, .int _ _), (28, .int _ _)] ⟨rfl, rfl, rfl, rfl, rfl, rfl, rfl, rfl, rfl, trivial⟩ fun σ => ?_
            refine gseq fun N19 hN19 => ?_
            refine gseq fun N20 hN20 => ?_
            refine greg ?_
            refine gop (y_move (v := .string _) rfl) rfl rfl rfl ?_
            refine gop_pure (e_call (vs := [.string _]) Tryz.func44 rfl (by kernel_rfl) rfl) (fun w hM => validPath_any w _) rfl rfl rfl ?_
            refine gop (y_not rfl) rfl rfl rfl ?_
            refine gops_nil ?_
            refine hN20 _ _ ?_
            refine gfrom [(1, .int _ _), (3, .pointer _), (7, .pointer _), (9, .slice Av _ cv), (10, .int _ _), (11, .string _), (26, .slice _ _ _), (27, .int _ _), (28, .int _ _), (35, .bool _)] ⟨rfl, rfl, rfl, rfl, rfl, rfl, rfl, rfl, rfl, rfl, trivial⟩ fun σ => ?_
            refine gcond (b := _) rfl (fun hc35 => ?_) (fun hc35 => ?_)
            · 
              replace hc35 := not_t hc35
              have hF : approveF (fpl fs) u ps = ⟨12, k⟩ := by rw [hFS, scan_at hk1 (fun j h hj => hz j h hj) (by rw [okPath, if_neg (by simpa using hc35)]; decide), okPath, if_neg (by simpa using hc35)]
              refine gseq fun N21 hN21 => ?_
              refine greg ?_
              refine gop (y_move (v := .int _ _) rfl) rfl rfl rfl ?_
              refine gop (y_build (vs := [(0, _), (1, .int _ _)]) (cells := #[_, _]) rfl (bd33_0_1 _ _)) rfl rfl rfl ?_
              refine gop (y_assign (v := .slice _ _ _) rfl) rfl rfl rfl ?_
              refine gop_store 1 (v := .agg #[_, _]) (cs' := #[_, _]) rfl rfl Tryz.sizeOf33 rfl rfl rfl rfl (Nat.le_of_ble_eq_true rfl) rfl rfl ?_
              refine gops_nil ?_
              refine hN21 _ _ ?_
              refine gT [box b3 _, box b7 _, box b8 _, rowl _ _ _ _ _ _] rfl ?_
              refine gfrom [(6, .slice _ _ _), (7, .pointer _)] ⟨rfl, rfl, trivial⟩ fun σ => ?_
              refine gret fun w1 hM => ?_
              refine ⟨_, res2 rfl (rt (v := .slice _ _ _) rfl) (rc 1 (cs := [_, _]) hM rfl rfl Tryz.isAgg33 Tryz.sizeOf33 rfl), ?_⟩
              exact ⟨_, _, by rw [hF], by rw [approveV, if_neg (by rw [hF]; exact fun h => absurd (congrArg Fault.code h) (show ¬ (12 : Int) = 0 by decide))]; rfl, (mem_nilrow apprCells 70 3 hM).dropTo 4 rfl⟩
            · 
              replace hc35 := not_f hc35
              have hpk : okPath k ps[k] = 0 := if_pos (by simpa using hc35)
              refine gskip ?_
              refine hN19 _ _ ?_
              refine gfrom [(1, .int _ _), (3, .pointer _), (7, .pointer _), (9, .slice Av _ cv), (11, .string _), (26, .slice _ _ _), (27, .int _ _), (28, .int _ _)] ⟨rfl, rfl, rfl, rfl, rfl, rfl, rfl, rfl, trivial⟩ fun σ => ?_
              refine greg ?_
              refine gop (y_move (v := .slice Av _ cv) rfl) rfl rfl rfl ?_
              refine gop (y_move (v := .int _ _) rfl) rfl rfl rfl ?_
              refine gop (y_move (v := .string _) rfl) rfl rfl rfl ?_
              refine gop (y_loads (cs := [_]) Tryz.isAgg61 Tryz.sizeOf61 rfl rfl (cells_box 0 rfl)) rfl rfl rfl ?_
              refine gop (y_move (v := .string _) rfl) rfl rfl rfl ?_
              refine gop_pure (e_call (vs := [.agg #[_], .string _]) Tryz.func37 rfl (by kernel_rfl) rfl) (fun w hM => describe_any w _ c fs (hR.base hM) v ps[k]) rfl rfl rfl ?_
              refine gop (y_build (vs := [(0, .int _ _), (1, .string _), (2, .int _ _)]) (cells := #[_, _, _]) rfl (bd70_0_1_2 _ _ _)) rfl rfl rfl ?_
              refine gop_lit (vs := [.agg #[_, _, _]]) (cells := #[_, _, _]) Tryz.underlying58 Tryz.sizeOf70 Tryz.zeroValue70 rfl (by decide) (by decide) rfl rfl rfl rfl (fun b45 hb45 => ?_)
              refine gop_append 3 (f := apprCells) (l2 := [(⟨u, ps[k], descP (fpl fs) ps[k]⟩ : Appr)]) Tryz.underlying58 el70 wide_appr (v := .slice Av _ cv) rfl rfl rfl rfl (fun h => by cases h) (by simp [maxLen, approveL]; omega) (by simp [approveL]; omega) (src_box 4 rfl rfl) rfl (fun v46 => ?_)
              refine gops_fact (fun w hM => own_form (hM.own 3 rfl)) ?_
              rintro ⟨A46, c46, rfl, hc46, hm46⟩
              refine gop (y_assign (v := .slice A46 _ c46) rfl) rfl rfl rfl ?_
              refine gops_nil ?_
              refine hN17 _ _ ?_
              refine gT [box b3 _, box b7 _, box b8 _, rowl _ _ _ _ _ _, box b45 _] rfl ?_
              refine gfrom [(1, .int _ _), (3, .pointer _), (7, .pointer _), (9, .slice A46 _ c46), (26, .slice _ _ _), (27, .int _ _), (28, .int _ _)] ⟨rfl, rfl, rfl, rfl, rfl, rfl, rfl, trivial⟩ fun σ => ?_
              refine greg ?_
              refine gop (y_add rfl rfl ⟨by omega, by omega⟩) rfl rfl rfl ?_
              refine gop (y_move (v := .int _ _) rfl) rfl rfl rfl ?_
              refine gops_nil ?_
              rw [← approveL_succ hk1]
              refine gnext2 ((k + 1, A46, c46)) (by show ps.length - (k + 1) < ps.length - k; omega) (⟨by show k + 1 ≤ _; omega, fun j h hj => by rcases Nat.lt_succ_iff_lt_or_eq.1 hj with h1 | rfl; exact hz j h h1; exact hpk⟩) ⟨(by rw [approveL_succ hk1]; rfl), rfl, trivial⟩ ⟨rfl, rfl, rfl, rfl, rfl, trivial⟩ ⟨_, rfl⟩
          · 
            replace hc29 := of_decide_eq_false hc29
            have hF : approveF (fpl fs) u ps = ⟨0, 0⟩ := by rw [hFS]; exact scan_ok (fun j hj => hz j hj (by omega))
            refine gexit ?_
            refine hN13 _ _ ?_
            refine gfrom [(7, .pointer _), (9, .slice Av _ cv)] ⟨rfl, rfl, trivial⟩ fun σ => ?_
            refine gseq fun N22 hN22 => ?_
            refine greg ?_
            refine gop (y_move (v := .slice Av _ cv) rfl) rfl rfl rfl ?_
            refine gop (y_build (vs := []) (cells := #[.int .i64 0, .int .i64 0]) rfl bd33_) rfl rfl rfl ?_
            refine gop (y_assign (v := .slice Av _ cv) rfl) rfl rfl rfl ?_
            refine gop_store 1 (v := .agg #[_, _]) (cs' := #[_, _]) rfl rfl Tryz.sizeOf33 rfl rfl rfl rfl (Nat.le_of_ble_eq_true rfl) rfl rfl ?_
            refine gops_nil ?_
            refine hN22 _ _ ?_
            refine gT [box b3 _, box b7 _, box b8 _, rowl _ _ _ _ _ _] rfl ?_
            refine gfrom [(6, .slice Av _ cv), (7, .pointer _)] ⟨rfl, rfl, trivial⟩ fun σ => ?_
            refine gret fun w1 hM => ?_
            refine ⟨_, res2 rfl (rt (v := .slice Av _ cv) rfl) (rc 1 (cs := [_, _]) hM rfl rfl Tryz.isAgg33 Tryz.sizeOf33 rfl), ?_⟩
            have hke : ps.take k = ps := List.take_of_length_le (by omega)
            rw [hke] at hM
            exact ⟨_, _, by rw [hF, hke], by rw [approveV, if_pos hF]; rfl, hM.dropTo 3 rfl⟩
end Go.Proofs.YtbkameioedmlkaaGreatDoor
namespace Go.Proofs.YtbkameioedmlkaaGreatDoor
open Go.RowKit Go.Cf
set_option maxRecDepth 10000
theorem fa70_0 (a : Addr) (w : World) : (Instr.fieldAt 70 (.pointer (some a)) 0).run Tryz.prog w = .ok (.pointer (some (a.add 0))) w := by kernel_rfl
theorem fa70_2 (a : Addr) (w : World) : (Instr.fieldAt 70 (.pointer (some a)) 2).run Tryz.prog w = .ok (.pointer (some (a.add 2))) w := by kernel_rfl
theorem fa70_1 (a : Addr) (w : World) : (Instr.fieldAt 70 (.pointer (some a)) 1).run Tryz.prog w = .ok (.pointer (some (a.add 1))) w := by kernel_rfl
theorem el4 : Elem Tryz.prog 4 1 1 := elem_of (z := .bool false) (by kernel_rfl) rfl (by decide)
set_option maxHeartbeats 4000000 in
theorem apprValidate_any (w : World) (LA : Option Addr) (lc : Nat) (l : List Appr) (hl : Rdl w 0 3 apprCells LA l) (hll : l.length ≤ lc) (hlm : lc ≤ maxLen) : Calls Tryz.prog 16 #[.slice LA l.length lc] w fun e w' => e = .returned (fv (apprF l)) ∧ Below w.heap.size w w' := by
  have hdm : dMod = 2305843009213693951 := rfl
  have hmx : maxLen = 9223372036854775807 := rfl
  refine gcalls Tryz.func16 rfl Tryz.ntmps16 (Nat.le_of_ble_eq_true rfl) ?_
  refine gfrom [(0, .slice _ _ _)] ⟨rfl, trivial⟩ fun σ => ?_
  refine gseq fun N1 hN1 => ?_
  refine greg ?_
  refine gop_alloc (cs := #[.int .i64 0, .int .i64 0]) Tryz.zeroValue33 rfl rfl (fun b2 hb2 => ?_)
  refine gops_nil ?_
  refine hN1 _ _ ?_
  refine gT [box b2 _] rfl ?_
  refine gfrom [(0, .slice _ _ _), (2, .pointer _)] ⟨rfl, rfl, trivial⟩ fun σ => ?_
  refine gseq fun N2 hN2 => ?_
  refine gseq fun N3 hN3 => ?_
  refine greg ?_
  refine gop (y_move (v := .slice _ _ _) rfl) rfl rfl rfl ?_
  refine gop (y_len Tryz.underlying58 rfl) rfl rfl rfl ?_
  refine gop (y_gtr rfl rfl) rfl rfl rfl ?_
  refine gops_nil ?_
  refine hN3 _ _ ?_
  refine gfrom [(0, .slice _ _ _), (2, .pointer _), (7, .bool _)] ⟨rfl, rfl, rfl, trivial⟩ fun σ => ?_
  refine gcond (b := _) rfl (fun hc7 => ?_) (fun hc7 => ?_)
  · 
    replace hc7 := of_decide_eq_true hc7
    have hF : apprF l = ⟨2, -1⟩ := by rw [apprF, if_pos (by omega)]
    refine gseq fun N4 hN4 => ?_
    refine greg ?_
    refine gop (y_build (vs := [(0, _), (1, _)]) (cells := #[_, _]) rfl (bd33_0_1 _ _)) rfl rfl rfl ?_
    refine gop_store 0 (v := .agg #[_, _]) (cs' := #[_, _]) rfl rfl Tryz.sizeOf33 rfl rfl rfl rfl (Nat.le_of_ble_eq_true rfl) rfl rfl ?_
    refine gops_nil ?_
    refine hN4 _ _ ?_
    refine gT [box b2 _] rfl ?_
    refine gfrom [(2, .pointer _)] ⟨rfl, trivial⟩ fun σ => ?_
    refine gret fun w1 hM => ?_
    refine ⟨_, res1 rfl (rc 0 (cs := [_, _]) hM rfl rfl Tryz.isAgg33 Tryz.sizeOf33 rfl), ?_⟩
    exact ⟨by rw [hF], hM.low⟩
  · 
    replace hc7 := of_decide_eq_false hc7
    have hF : apprF l = scan (fun _ a => apprCode a) l := by rw [apprF, if_neg (by omega)]
    refine gskip ?_
    refine hN2 _ _ ?_
    refine gfrom [(0, .slice _ _ _), (2, .pointer _)] ⟨rfl, rfl, trivial⟩ fun σ => ?_
    refine gseq fun N5 hN5 => ?_
    refine gseq fun N6 hN6 => ?_
    refine greg ?_
    refine gop (y_move (v := .slice _ _ _) rfl) rfl rfl rfl ?_
    refine gop (y_len Tryz.underlying58 rfl) rfl rfl rfl ?_
    refine gop (y_move (v := .int _ _) rfl) rfl rfl rfl ?_
    refine gops_nil ?_
    refine hN6 _ _ ?_
    refine gfrom [(2, .pointer _), (9, .slice _ _ _), (10, .int _ _), (11, .int _ _)] ⟨rfl, rfl, rfl, rfl, trivial⟩ fun σ => ?_
    refine gblock ?_
    refine gfrom2 [(11, .int _ _)] [(2, .pointer _), (9, .slice _ _ _), (10, .int _ _)] ⟨rfl, trivial⟩ ⟨rfl, rfl, rfl, trivial⟩ fun σ => ?_
    refine gloop2 (G := Nat) (fun k => k ≤ l.length ∧ ∀ j (h : j < l.length), j < k → apprCode l[j] = 0) (fun k => l.length - k) (fun k => [(11, .int .i64 (k : Int))]) (fun k => []) (0) ?h0 ⟨rfl, trivial⟩ ⟨rfl, rfl, rfl, trivial⟩ rfl ?round
    case h0 => exact ⟨Nat.zero_le _, fun _ _ h => absurd h (Nat.not_lt_zero _)⟩
    case round =>
      intro k hφ σ
      obtain ⟨hk, hz⟩ := hφ
      refine gseq fun N7 hN7 => ?_
      refine greg ?_
      refine gop (y_lss rfl rfl) rfl rfl rfl ?_
      refine gops_nil ?_
      refine hN7 _ _ ?_
      refine gfrom [(2, .pointer _), (9, .slice _ _ _), (10, .int _ _), (11, .int _ _), (12, .bool _)] ⟨rfl, rfl, rfl, rfl, rfl, trivial⟩ fun σ => ?_
      refine gseq fun N8 hN8 => ?_
      refine gcond (b := _) rfl (fun hc12 => ?_) (fun hc12 => ?_)
      · 
        replace hc12 := of_decide_eq_true hc12
        have hk1 : k < l.length := by omega
        obtain ⟨ad, rfl, -, hca⟩ := hl.at_ hk1
        have huc : (decide (0 ≤ l[k].user) && decide (l[k].user ≤ 7)) = decide (0 ≤ l[k].user ∧ l[k].user ≤ 7) := (Bool.decide_and _ _).symm
        refine gskip ?_
        refine hN8 _ _ ?_
        refine gfrom [(2, .pointer _), (9, .slice _ _ _), (10, .int _ _), (11, .int _ _)] ⟨rfl, rfl, rfl, rfl, trivial⟩ fun σ => ?_
        refine gseq fun N9 hN9 => ?_
        refine gblock ?_
        refine gseq fun N10 hN10 => ?_
        refine greg ?_
        refine gop (y_move (v := .int _ _) rfl) rfl rfl rfl ?_
        refine gop (y_indexAddr (m := k) Tryz.underlying58 Tryz.sizeOf70 rfl rfl (by omega) (by omega) (by omega)) rfl rfl rfl ?_
        refine gop (y_loads (cs := [_, _, _]) Tryz.isAgg70 Tryz.sizeOf70 rfl rfl (cells_base hca)) rfl rfl rfl ?_
        refine gop_alloc (cs := #[.int .i64 0, .string .empty, .int .i64 0]) Tryz.zeroValue70 rfl rfl (fun b4 hb4 => ?_)
        refine gop (y_assign (v := .int _ _) rfl) rfl rfl rfl ?_
        refine gop_store 1 (v := .agg #[_, _, _]) (cs' := #[_, _, _]) rfl rfl Tryz.sizeOf70 rfl rfl rfl rfl (Nat.le_of_ble_eq_true rfl) rfl rfl ?_
        refine gops_nil ?_
        refine hN10 _ _ ?_
        refine gT [box b2 _, box b4 _] rfl ?_
        refine gfrom [(2, .pointer _), (3, .int _ _), (4, .pointer _), (9, .slice _ _ _), (10, .int _ _), (11, .int _ _)] ⟨rfl, rfl, rfl, rfl, rfl, rfl, trivial⟩ fun σ => ?_
        refine gseq fun N11 hN11 => ?_
        refine gseq fun N12 hN12 => ?_
        refine greg ?_
        refine gop (y_fieldAddr_box fa70_0 rfl) rfl rfl rfl ?_
        refine gop (y_load Tryz.isAgg3 rfl (cell_box 1 rfl rfl)) rfl rfl rfl ?_
        refine gop_pure (e_call (vs := [.int _ _]) Tryz.func43 rfl (by kernel_rfl) rfl) (fun w hM => isUser_any w l[k].user) rfl rfl rfl ?_
        refine gop (y_not rfl) rfl rfl rfl ?_
        refine gop (y_move (v := .bool _) rfl) rfl rfl rfl ?_
        refine gop_if (want := false) rfl rfl rfl rfl rfl rfl (fun hg20 => ?_) (fun hg20 => ?_)
        · 
          have hg20d := not_f hg20
          have hu : (decide (0 ≤ l[k].user) && decide (l[k].user ≤ 7)) = true := by simpa using hg20d
          refine gop (y_bare (y_fieldAddr_box fa70_2 rfl)) rfl rfl rfl ?_
          refine gop_on rfl rfl rfl rfl hg20 ?_
          refine gop (y_bare (y_load Tryz.isAgg3 rfl (cell_box 1 rfl rfl))) rfl rfl rfl ?_
          refine gop_on rfl rfl rfl rfl hg20 ?_
          refine gop (y_bare (y_lss rfl rfl)) rfl rfl rfl ?_
          refine gop (y_pick_f (v := .bool _) rfl hg20 rfl) rfl rfl rfl ?_
          refine gop (y_move (v := .bool _) rfl) rfl rfl rfl ?_
          refine gop_if (want := false) rfl rfl rfl rfl rfl rfl (fun hg25 => ?_) (fun hg25 => ?_)
          · 
            have hg25d := of_decide_eq_false hg25
            refine gop (y_bare (y_fieldAddr_box fa70_2 rfl)) rfl rfl rfl ?_
            refine gop_on rfl rfl rfl rfl hg25 ?_
            refine gop (y_bare (y_load Tryz.isAgg3 rfl (cell_box 1 rfl rfl))) rfl rfl rfl ?_
            refine gop_on rfl rfl rfl rfl hg25 ?_
            refine gop (y_bare (y_geq rfl rfl)) rfl rfl rfl ?_
            refine gop (y_pick_f (v := .bool _) rfl hg25 rfl) rfl rfl rfl ?_
            refine gops_nil ?_
            refine hN12 _ _ ?_
            refine gfrom [(2, .pointer _), (3, .int _ _), (4, .pointer _), (9, .slice _ _ _), (10, .int _ _), (11, .int _ _), (29, .bool _)] ⟨rfl, rfl, rfl, rfl, rfl, rfl, rfl, trivial⟩ fun σ => ?_
            refine gcond (b := _) rfl (fun hc29 => ?_) (fun hc29 => ?_)
            · 
              replace hc29 := of_decide_eq_true hc29
              have hC : apprCode l[k] = 3 := by rw [apprCode, if_pos (appr_bad (by first | exact .inl hu | exact .inr (.inl (by omega)) | exact .inr (.inr (by rw [hdm]; first | exact hc29 | exact of_decide_eq_true hc29))))]
              refine gseq fun N13 hN13 => ?_
              refine greg ?_
              refine gop (y_move (v := .int _ _) rfl) rfl rfl rfl ?_
              refine gop (y_build (vs := [(0, _), (1, .int _ _)]) (cells := #[_, _]) rfl (bd33_0_1 _ _)) rfl rfl rfl ?_
              refine gop_store 0 (v := .agg #[_, _]) (cs' := #[_, _]) rfl rfl Tryz.sizeOf33 rfl rfl rfl rfl (Nat.le_of_ble_eq_true rfl) rfl rfl ?_
              refine gops_nil ?_
              refine hN13 _ _ ?_
              refine gT [box b2 _, box b4 _] rfl ?_
              refine gfrom [(2, .pointer _)] ⟨rfl, trivial⟩ fun σ => ?_
              refine gret fun w1 hM => ?_
              refine ⟨_, res1 rfl (rc 0 (cs := [_, _]) hM rfl rfl Tryz.isAgg33 Tryz.sizeOf33 rfl), ?_⟩
              exact ⟨by rw [hF, scan_at (f := fun _ a => apprCode a) hk1 hz (by show apprCode l[k] ≠ 0; rw [hC]; decide)]; show _ = Ending.returned (fv ⟨apprCode l[k], k⟩); rw [hC], hM.low⟩
            · 
              replace hc29 := of_decide_eq_false hc29
              have hg0 : ¬ (l[k].user < 0 ∨ 7 < l[k].user ∨ l[k].dig < -1 ∨ dMod ≤ l[k].dig) := appr_good hu (by omega) (by rw [hdm]; first | exact hc29 | exact of_decide_eq_false hc29 | omega)
              refine gskip ?_
              refine hN11 _ _ ?_
              refine gfrom [(2, .pointer _), (3, .int _ _), (4, .pointer _), (9, .slice _ _ _), (10, .int _ _), (11, .int _ _)] ⟨rfl, rfl, rfl, rfl, rfl, rfl, trivial⟩ fun σ => ?_
              refine gseq fun N14 hN14 => ?_
              refine greg ?_
              refine gop (y_fieldAddr_box fa70_1 rfl) rfl rfl rfl ?_
              refine gop (y_load Tryz.isAgg9 rfl (cell_box 1 rfl rfl)) rfl rfl rfl ?_
              refine gop_pure (e_call (vs := [.string _]) Tryz.func44 rfl (by kernel_rfl) rfl) (fun w hM => validPath_any w _) rfl rfl rfl ?_
              refine gop (y_not rfl) rfl rfl rfl ?_
              refine gops_nil ?_
              refine hN14 _ _ ?_
              refine gfrom [(2, .pointer _), (3, .int _ _), (9, .slice _ _ _), (10, .int _ _), (11, .int _ _), (35, .bool _)] ⟨rfl, rfl, rfl, rfl, rfl, rfl, trivial⟩ fun σ => ?_
              refine gcond (b := _) rfl (fun hc35 => ?_) (fun hc35 => ?_)
              · 
                replace hc35 := not_t hc35
                have hC : apprCode l[k] = 12 := by rw [apprCode, if_neg hg0, if_neg (by simpa using hc35)]
                refine gseq fun N15 hN15 => ?_
                refine greg ?_
                refine gop (y_move (v := .int _ _) rfl) rfl rfl rfl ?_
                refine gop (y_build (vs := [(0, _), (1, .int _ _)]) (cells := #[_, _]) rfl (bd33_0_1 _ _)) rfl rfl rfl ?_
                refine gop_store 0 (v := .agg #[_, _]) (cs' := #[_, _]) rfl rfl Tryz.sizeOf33 rfl rfl rfl rfl (Nat.le_of_ble_eq_true rfl) rfl rfl ?_
                refine gops_nil ?_
                refine hN15 _ _ ?_
                refine gT [box b2 _, box b4 _] rfl ?_
                refine gfrom [(2, .pointer _)] ⟨rfl, trivial⟩ fun σ => ?_
                refine gret fun w1 hM => ?_
                refine ⟨_, res1 rfl (rc 0 (cs := [_, _]) hM rfl rfl Tryz.isAgg33 Tryz.sizeOf33 rfl), ?_⟩
                exact ⟨by rw [hF, scan_at (f := fun _ a => apprCode a) hk1 hz (by show apprCode l[k] ≠ 0; rw [hC]; decide)]; show _ = Ending.returned (fv ⟨apprCode l[k], k⟩); rw [hC], hM.low⟩
              · 
                replace hc35 := not_f hc35
                have hC0 : apprCode l[k] = 0 := by rw [apprCode, if_neg hg0, if_pos (by simpa using hc35)]
                refine gskip ?_
                refine hN9 _ _ ?_
                refine gfrom [(2, .pointer _), (9, .slice _ _ _), (10, .int _ _), (11, .int _ _)] ⟨rfl, rfl, rfl, rfl, trivial⟩ fun σ => ?_
                refine greg ?_
                refine gop (y_add rfl rfl ⟨by omega, by omega⟩) rfl rfl rfl ?_
                refine gop (y_move (v := .int _ _) rfl) rfl rfl rfl ?_
                refine gops_nil ?_
                refine gnext2 (k + 1) (by omega) (⟨by omega, fun j h hj => by rcases Nat.lt_succ_iff_lt_or_eq.1 hj with h1 | rfl; exact hz j h h1; exact hC0⟩) ⟨rfl, trivial⟩ ⟨rfl, rfl, rfl, trivial⟩ ⟨_, rfl⟩
          · 
            have hg25d := of_decide_eq_true hg25
            refine gop_off rfl rfl rfl rfl hg25 rfl rfl ?_
            refine gop_off rfl rfl rfl rfl hg25 rfl rfl ?_
            refine gop (y_pick_t (v := .bool _) rfl hg25 rfl) rfl rfl rfl ?_
            refine gops_nil ?_
            refine hN12 _ _ ?_
            refine gfrom [(2, .pointer _), (3, .int _ _), (4, .pointer _), (9, .slice _ _ _), (10, .int _ _), (11, .int _ _), (29, .bool _)] ⟨rfl, rfl, rfl, rfl, rfl, rfl, rfl, trivial⟩ fun σ => ?_
            refine gcond (b := _) rfl (fun hc29 => ?_) (fun hc29 => ?_)
            · 
              have hC : apprCode l[k] = 3 := by rw [apprCode, if_pos (appr_bad (by first | exact .inl hu | exact .inr (.inl (by omega)) | exact .inr (.inr (by rw [hdm]; first | exact hc29 | exact of_decide_eq_true hc29))))]
              refine gseq fun N16 hN16 => ?_
              refine greg ?_
              refine gop (y_move (v := .int _ _) rfl) rfl rfl rfl ?_
              refine gop (y_build (vs := [(0, _), (1, .int _ _)]) (cells := #[_, _]) rfl (bd33_0_1 _ _)) rfl rfl rfl ?_
              refine gop_store 0 (v := .agg #[_, _]) (cs' := #[_, _]) rfl rfl Tryz.sizeOf33 rfl rfl rfl rfl (Nat.le_of_ble_eq_true rfl) rfl rfl ?_
              refine gops_nil ?_
              refine hN16 _ _ ?_
              refine gT [box b2 _, box b4 _] rfl ?_
              refine gfrom [(2, .pointer _)] ⟨rfl, trivial⟩ fun σ => ?_
              refine gret fun w1 hM => ?_
              refine ⟨_, res1 rfl (rc 0 (cs := [_, _]) hM rfl rfl Tryz.isAgg33 Tryz.sizeOf33 rfl), ?_⟩
              exact ⟨by rw [hF, scan_at (f := fun _ a => apprCode a) hk1 hz (by show apprCode l[k] ≠ 0; rw [hC]; decide)]; show _ = Ending.returned (fv ⟨apprCode l[k], k⟩); rw [hC], hM.low⟩
            · 
              cases hc29
        · 
          have hg20d := not_t hg20
          have hu : (decide (0 ≤ l[k].user) && decide (l[k].user ≤ 7)) = false := by simpa using hg20d
          refine gop_off rfl rfl rfl rfl hg20 rfl rfl ?_
          refine gop_off rfl rfl rfl rfl hg20 rfl rfl ?_
          refine gop (y_pick_t (v := .bool _) rfl hg20 rfl) rfl rfl rfl ?_
          refine gop (y_move (v := .bool _) rfl) rfl rfl rfl ?_
          refine gop_off rfl rfl rfl rfl rfl rfl rfl ?_
          refine gop_off rfl rfl rfl rfl rfl rfl rfl ?_
          refine gop_off rfl rfl rfl rfl rfl rfl rfl ?_
          refine gop (y_pick_t (v := .bool _) rfl rfl rfl) rfl rfl rfl ?_
          refine gops_nil ?_
          refine hN12 _ _ ?_
          refine gfrom [(2, .pointer _), (3, .int _ _), (4, .pointer _), (9, .slice _ _ _), (10, .int _ _), (11, .int _ _), (29, .bool _)] ⟨rfl, rfl, rfl, rfl, rfl, rfl, rfl, trivial⟩ fun σ => ?_
          refine gcond (b := _) rfl (fun hc29 => ?_) (fun hc29 => ?_)
          · 
            have hC : apprCode l[k] = 3 := by rw [apprCode, if_pos (appr_bad (by first | exact .inl hu | exact .inr (.inl (by omega)) | exact .inr (.inr (by rw [hdm]; first | exact hc29 | exact of_decide_eq_true hc29))))]
            refine gseq fun N17 hN17 => ?_
            refine greg ?_
            refine gop (y_move (v := .int _ _) rfl) rfl rfl rfl ?_
            refine gop (y_build (vs := [(0, _), (1, .int _ _)]) (cells := #[_, _]) rfl (bd33_0_1 _ _)) rfl rfl rfl ?_
            refine gop_store 0 (v := .agg #[_, _]) (cs' := #[_, _]) rfl rfl Tryz.sizeOf33 rfl rfl rfl rfl (Nat.le_of_ble_eq_true rfl) rfl rfl ?_
            refine gops_nil ?_
            refine hN17 _ _ ?_
            refine gT [box b2 _, box b4 _] rfl ?_
            refine gfrom [(2, .pointer _)] ⟨rfl, trivial⟩ fun σ => ?_
            refine gret fun w1 hM => ?_
            refine ⟨_, res1 rfl (rc 0 (cs := [_, _]) hM rfl rfl Tryz.isAgg33 Tryz.sizeOf33 rfl), ?_⟩
            exact ⟨by rw [hF, scan_at (f := fun _ a => apprCode a) hk1 hz (by show apprCode l[k] ≠ 0; rw [hC]; decide)]; show _ = Ending.returned (fv ⟨apprCode l[k], k⟩); rw [hC], hM.low⟩
          · 
            cases hc29
      · 
        replace hc12 := of_decide_eq_false hc12
        have hF2 : apprF l = ⟨0, 0⟩ := by rw [hF]; exact scan_ok fun j hj => hz j hj (by omega)
        refine gexit ?_
        refine hN5 _ _ ?_
        refine gfrom [(2, .pointer _)] ⟨rfl, trivial⟩ fun σ => ?_
        refine gseq fun N18 hN18 => ?_
        refine greg ?_
        refine gop (y_build (vs := []) (cells := #[.int .i64 0, .int .i64 0]) rfl bd33_) rfl rfl rfl ?_
        refine gop_store 0 (v := .agg #[_, _]) (cs' := #[_, _]) rfl rfl Tryz.sizeOf33 rfl rfl rfl rfl (Nat.le_of_ble_eq_true rfl) rfl rfl ?_
        refine gops_nil ?_
        refine hN18 _ _ ?_
        refine gT [box b2 _] rfl ?_
        refine gfrom [(2, .pointer _)] ⟨rfl, trivial⟩ fun σ => ?_
        refine gret fun w1 hM => ?_
        refine ⟨_, res1 rfl (rc 0 (cs := [_, _]) hM rfl rfl Tryz.isAgg33 Tryz.sizeOf33 rfl), ?_⟩
        exact ⟨by rw [hF2], hM.low⟩
set_option maxHeartbeats 8000000 in
theorem valid_any (w : World) (LA : Option Addr) (lc : Nat) (l : List Appr) (hl : Rdl w 0 3 apprCells LA l) (hll : l.length ≤ lc) (hlm : lc ≤ maxLen) (A : Option Addr) (c : Nat) (fs : List FileC) (hR : TreeR w 0 A c fs) :
    Calls Tryz.prog 12 #[.slice LA l.length lc, .agg #[.slice A fs.length c]] w fun e w' => ∃ v T', e = .returned (.tuple #[v, fv (validF l (fpl fs))]) ∧ T' = [rowl boolCells w.heap.size 4 1 (v) (validV l (fpl fs))] ∧ Mem w T' w' := by
  have hsl := hR.sb.len
  have hsm := hR.sb.max
  have hmx : maxLen = 9223372036854775807 := rfl
  refine gcalls Tryz.func12 rfl Tryz.ntmps12 (Nat.le_of_ble_eq_true rfl) ?_
  refine gfrom [(0, .slice _ _ _), (1, .agg #[_])] ⟨rfl, rfl, trivial⟩ fun σ => ?_
  refine gseq fun N1 hN1 => ?_
  refine greg ?_
  refine gop_box (v := .agg #[_]) (cs := #[_]) rfl rfl rfl (fun b3 hb3 => ?_)
  refine gop (y_assign (v := .slice _ _ _) rfl) rfl rfl rfl ?_
  refine gop_alloc (cs := #[.int .i64 0, .int .i64 0]) Tryz.zeroValue33 rfl rfl (fun b5 hb5 => ?_)
  refine gops_nil ?_
  refine hN1 _ _ ?_
  refine gT [box b3 _, box b5 _] rfl ?_
  refine gfrom [(0, .slice _ _ _), (3, .pointer _), (5, .pointer _)] ⟨rfl, rfl, rfl, trivial⟩ fun σ => ?_
  refine gseq fun N2 hN2 => ?_
  refine gseq fun N3 hN3 => ?_
  refine greg ?_
  refine gop (y_move (v := .slice _ _ _) rfl) rfl rfl rfl ?_
  refine gop_pure (e_call (vs := [.slice _ _ _]) Tryz.func16 rfl (by kernel_rfl) rfl) (fun w hM => apprValidate_any w LA lc l (hl.base hM) hll hlm) rfl rfl rfl ?_
  refine gop_alloc (cs := #[.int .i64 0, .int .i64 0]) Tryz.zeroValue33 rfl rfl (fun b6 hb6 => ?_)
  refine gop_store 2 (v := .agg #[_, _]) (cs' := #[_, _]) rfl rfl Tryz.sizeOf33 rfl rfl rfl rfl (Nat.le_of_ble_eq_true rfl) rfl rfl ?_
  refine gops_nil ?_
  refine hN3 _ _ ?_
  refine gT [box b3 _, box b5 _, box b6 _] rfl ?_
  refine gfrom [(0, .slice _ _ _), (3, .pointer _), (5, .pointer _), (6, .pointer _)] ⟨rfl, rfl, rfl, rfl, trivial⟩ fun σ => ?_
  refine gseq fun N4 hN4 => ?_
  refine greg ?_
  refine gop (y_loads (cs := [_, _]) Tryz.isAgg33 Tryz.sizeOf33 rfl rfl (cells_box 2 rfl)) rfl rfl rfl ?_
  refine gop (y_build (vs := []) (cells := #[.int .i64 0, .int .i64 0]) rfl bd33_) rfl rfl rfl ?_
  refine gop (y_bin (vx := .agg #[_, _]) (vy := .agg #[_, _]) rfl rfl (fun w => eg33 _ _ _ _ _ w) (fun w => ne33 _ _ _ _ w)) rfl rfl rfl ?_
  refine gops_nil ?_
  refine hN4 _ _ ?_
  refine gfrom [(0, .slice _ _ _), (3, .pointer _), (5, .pointer _), (6, .pointer _), (15, .bool _)] ⟨rfl, rfl, rfl, rfl, rfl, trivial⟩ fun σ => ?_
  refine gcond (b := _) rfl (fun hc15 => ?_) (fun hc15 => ?_)
  · 
    replace hc15 := fault_ne.1 hc15
    have hF : validF l (fpl fs) = apprF l := by rw [validF, if_pos hc15]
    refine gseq fun N5 hN5 => ?_
    refine greg_e1 [] [(1, room b5 33 2)] (by kernel_rfl) ?_
    refine ge_take 0 (TK := [box b3 _, room b5 33 2, box b6 _]) rfl (by kernel_rfl) (by kernel_rfl) (by kernel_rfl) #[false, true, false] (by kernel_rfl) rfl (y_loads (cs := [_, _]) Tryz.isAgg33 Tryz.sizeOf33 rfl rfl (cells_box 2 rfl)) rfl rfl rfl (weak_room 1 rfl rfl) (listed' := #[true, false, false]) rfl ?_
    refine ge_take 1 (TK := [box b3 _, room b5 33 2, box b6 _]) rfl (by kernel_rfl) (by kernel_rfl) (by kernel_rfl) #[true, false, false] (by kernel_rfl) rfl (y_assign (v := .slice _ _ _) rfl) rfl rfl rfl (weak_room 1 rfl rfl) (listed' := #[true, true, false]) rfl ?_
    refine ge_one 2 (k' := 0) (listed' := #[true, true, true]) (by kernel_rfl) rfl rfl rfl ?_
    refine gop_store 1 (v := .agg #[_, _]) (cs' := #[_, _]) rfl rfl Tryz.sizeOf33 rfl rfl rfl rfl (Nat.le_of_ble_eq_true rfl) rfl rfl ?_
    refine gops_nil ?_
    refine ge_fin (TK := [box b3 _, room b5 33 2, box b6 _]) rfl (weak_room 1 rfl rfl) ?_
    refine ge_done (by kernel_rfl) ?_
    refine hN5 _ _ ?_
    refine gT [box b3 _, box b5 _, box b6 _] rfl ?_
    refine gfrom [(4, .slice _ _ _), (5, .pointer _)] ⟨rfl, rfl, trivial⟩ fun σ => ?_
    refine gret fun w1 hM => ?_
    refine ⟨_, res2 rfl (rt (v := .slice _ _ _) rfl) (rc 1 (cs := [_, _]) hM rfl rfl Tryz.isAgg33 Tryz.sizeOf33 rfl), ?_⟩
    exact ⟨_, _, by rw [hF], by rw [validV, if_neg (by rw [hF]; exact hc15)]; rfl, (mem_nilrow boolCells 4 1 hM).dropTo 3 rfl⟩
  · 
    replace hc15 := fault_eq.1 hc15
    have hFS : validF l (fpl fs) = secondF (treeF (fpl fs)) (-2) := by rw [validF, if_neg (fun h9 => h9 hc15)]
    refine gskip ?_
    refine hN2 _ _ ?_
    refine gfrom [(0, .slice _ _ _), (3, .pointer _), (5, .pointer _)] ⟨rfl, rfl, rfl, trivial⟩ fun σ => ?_
    refine gseq fun N6 hN6 => ?_
    refine gseq fun N7 hN7 => ?_
    refine greg ?_
    refine gop (y_loads (cs := [_]) Tryz.isAgg61 Tryz.sizeOf61 rfl rfl (cells_box 0 rfl)) rfl rfl rfl ?_
    refine gop_pure (e_call (vs := [.agg #[_], _]) Tryz.func36 rfl (by kernel_rfl) rfl) (fun w hM => treeSecond_any w A c fs (hR.base hM) (-2)) rfl rfl rfl ?_
    refine gop_alloc (cs := #[.int .i64 0, .int .i64 0]) Tryz.zeroValue33 rfl rfl (fun b7 hb7 => ?_)
    refine gop_store 3 (v := .agg #[_, _]) (cs' := #[_, _]) rfl rfl Tryz.sizeOf33 rfl rfl rfl rfl (Nat.le_of_ble_eq_true rfl) rfl rfl ?_
    refine gops_nil ?_
    refine hN7 _ _ ?_
    refine gT [box b3 _, box b5 _, box b6 _, box b7 _] rfl ?_
    refine gfrom [(0, .slice _ _ _), (3, .pointer _), (5, .pointer _), (7, .pointer _)] ⟨rfl, rfl, rfl, rfl, trivial⟩ fun σ => ?_
    refine gseq fun N8 hN8 => ?_
    refine greg ?_
    refine gop (y_loads (cs := [_, _]) Tryz.isAgg33 Tryz.sizeOf33 rfl rfl (cells_box 3 rfl)) rfl rfl rfl ?_
    refine gop (y_build (vs := []) (cells := #[.int .i64 0, .int .i64 0]) rfl bd33_) rfl rfl rfl ?_
    refine gop (y_bin (vx := .agg #[_, _]) (vy := .agg #[_, _]) rfl rfl (fun w => eg33 _ _ _ _ _ w) (fun w => ne33 _ _ _ _ w)) rfl rfl rfl ?_
    refine gops_nil ?_
    refine hN8 _ _ ?_
    refine gfrom [(0, .slice _ _ _), (3, .pointer _), (5, .pointer _), (7, .pointer _), (21, .bool _)] ⟨rfl, rfl, rfl, rfl, rfl, trivial⟩ fun σ => ?_
    refine gcond (b := _) rfl (fun hc21 => ?_) (fun hc21 => ?_)
    · 
      replace hc21 := fault_ne.1 hc21
      have hF := hFS
      refine gseq fun N9 hN9 => ?_
      refine greg_e1 [] [(1, room b5 33 2)] (by kernel_rfl) ?_
      refine ge_take 0 (TK := [box b3 _, room b5 33 2, box b6 _, box b7 _]) rfl (by kernel_rfl) (by kernel_rfl) (by kernel_rfl) #[false, true, false] (by kernel_rfl) rfl (y_loads (cs := [_, _]) Tryz.isAgg33 Tryz.sizeOf33 rfl rfl (cells_box 3 rfl)) rfl rfl rfl (weak_room 1 rfl rfl) (listed' := #[true, false, false]) rfl ?_
      refine ge_take 1 (TK := [box b3 _, room b5 33 2, box b6 _, box b7 _]) rfl (by kernel_rfl) (by kernel_rfl) (by kernel_rfl) #[true, false, false] (by kernel_rfl) rfl (y_assign (v := .slice _ _ _) rfl) rfl rfl rfl (weak_room 1 rfl rfl) (listed' := #[true, true, false]) rfl ?_
      refine ge_one 2 (k' := 0) (listed' := #[true, true, true]) (by kernel_rfl) rfl rfl rfl ?_
      refine gop_store 1 (v := .agg #[_, _]) (cs' := #[_, _]) rfl rfl Tryz.sizeOf33 rfl rfl rfl rfl (Nat.le_of_ble_eq_true rfl) rfl rfl ?_
      refine gops_nil ?_
      refine ge_fin (TK := [box b3 _, room b5 33 2, box b6 _, box b7 _]) rfl (weak_room 1 rfl rfl) ?_
      refine ge_done (by kernel_rfl) ?_
      refine hN9 _ _ ?_
      refine gT [box b3 _, box b5 _, box b6 _, box b7 _] rfl ?_
      refine gfrom [(4, .slice _ _ _), (5, .pointer _)] ⟨rfl, rfl, trivial⟩ fun σ => ?_
      refine gret fun w1 hM => ?_
      refine ⟨_, res2 rfl (rt (v := .slice _ _ _) rfl) (rc 1 (cs := [_, _]) hM rfl rfl Tryz.isAgg33 Tryz.sizeOf33 rfl), ?_⟩
      exact ⟨_, _, by rw [hF], by rw [validV, if_neg (by rw [hF]; exact hc21)]; rfl, (mem_nilrow boolCells 4 1 hM).dropTo 4 rfl⟩
    · 
      replace hc21 := fault_eq.1 hc21
      have htz : treeF (fpl fs) = ⟨0, 0⟩ := sec_ok hc21 (by decide)
      have v := treeF_valid htz
      have hF : validF l (fpl fs) = ⟨0, 0⟩ := hFS.trans hc21
      have hl40 := apprF_len hc15
      refine gskip ?_
      refine hN6 _ _ ?_
      refine gfrom [(0, .slice _ _ _), (3, .pointer _), (5, .pointer _)] ⟨rfl, rfl, rfl, trivial⟩ fun σ => ?_
      refine gseq fun N10 hN10 => ?_
      refine greg ?_
      refine gop (y_assign (v := .slice _ _ _) rfl) rfl rfl rfl ?_
      refine gops_nil ?_
      refine hN10 _ _ ?_
      refine gfrom [(0, .slice _ _ _), (3, .pointer _), (5, .pointer _), (8, .slice _ _ _)] ⟨rfl, rfl, rfl, rfl, trivial⟩ fun σ => ?_
      refine gseq fun N11 hN11 => ?_
      refine gseq fun N12 hN12 => ?_
      refine greg ?_
      refine gop (y_move (v := .slice _ _ _) rfl) rfl rfl rfl ?_
      refine gop (y_len Tryz.underlying58 rfl) rfl rfl rfl ?_
      refine gop (y_move (v := .int _ _) rfl) rfl rfl rfl ?_
      refine gops_nil ?_
      refine hN12 _ _ ?_
      refine gfrom [(3, .pointer _), (5, .pointer _), (8, .slice _ _ _), (23, .slice _ _ _), (24, .int _ _), (25, .int _ _)] ⟨rfl, rfl, rfl, rfl, rfl, rfl, trivial⟩ fun σ => ?_
      refine gblock ?_
      refine gnilrow boolCells 4 1 ?_
      refine gfrom2 [(8, .slice _ _ _), (25, .int _ _)] [(3, .pointer _), (5, .pointer _), (23, .slice _ _ _), (24, .int _ _)] ⟨rfl, rfl, trivial⟩ ⟨rfl, rfl, rfl, rfl, trivial⟩ fun σ => ?_
      refine gloop2 (G := Nat × Option Addr × Nat) (fun (k, Av, cv) => k ≤ l.length) (fun (k, Av, cv) => l.length - k) (fun (k, Av, cv) => [(8, .slice Av (validL (l.take k) (fpl fs)).length cv), (25, .int .i64 (k : Int))]) (fun (k, Av, cv) => [(4, rowl boolCells w.heap.size 4 1 (.slice Av (validL (l.take k) (fpl fs)).length cv) (validL (l.take k) (fpl fs)))]) ((0, none, 0)) ?h0 ⟨rfl, rfl, trivial⟩ ⟨rfl, rfl, rfl, rfl, trivial⟩ rfl ?round
      case h0 => exact Nat.zero_le _
      case round =>
        rintro ⟨k, Av, cv⟩ hφ σ
        have hk : k ≤ l.length := hφ
        refine gT [box b3 _, box b5 _, box b6 _, box b7 _, rowl _ _ _ _ _ _] rfl ?_
        refine gseq fun N13 hN13 => ?_
        refine greg ?_
        refine gop (y_lss rfl rfl) rfl rfl rfl ?_
        refine gops_nil ?_
        refine hN13 _ _ ?_
        refine gfrom [(3, .pointer _), (5, .pointer _), (8, .slice Av _ cv), (23, .slice _ _ _), (24, .int _ _), (25, .int _ _), (26, .bool _)] ⟨rfl, rfl, rfl, rfl, rfl, rfl, rfl, trivial⟩ fun σ => ?_
        refine gseq fun N14 hN14 => ?_
        refine gcond (b := _) rfl (fun hc26 => ?_) (fun hc26 => ?_)
        · 
          replace hc26 := of_decide_eq_true hc26
          have hk1 : k < l.length := by omega
          obtain ⟨ad, rfl, -, hca⟩ := hl.at_ hk1
          refine gskip ?_
          refine hN14 _ _ ?_
          refine gfrom [(3, .pointer _), (5, .pointer _), (8, .slice Av _ cv), (23, .slice _ _ _), (24, .int _ _), (25, .int _ _)] ⟨rfl, rfl, rfl, rfl, rfl, rfl, trivial⟩ fun σ => ?_
          refine gseq fun N15 hN15 => ?_
          refine gblock ?_
          refine gseq fun N16 hN16 => ?_
          refine greg ?_
          refine gop (y_indexAddr (m := k) Tryz.underlying58 Tryz.sizeOf70 rfl rfl (by omega) (by omega) (by omega)) rfl rfl rfl ?_
          refine gop (y_loads (cs := [_, _, _]) Tryz.isAgg70 Tryz.sizeOf70 rfl rfl (cells_base hca)) rfl rfl rfl ?_
          refine gop_alloc (cs := #[.int .i64 0, .string .empty, .int .i64 0]) Tryz.zeroValue70 rfl rfl (fun b10 hb10 => ?_)
          refine gop_store 5 (v := .agg #[_, _, _]) (cs' := #[_, _, _]) rfl rfl Tryz.sizeOf70 rfl rfl rfl rfl (Nat.le_of_ble_eq_true rfl) rfl rfl ?_
          refine gops_nil ?_
          refine hN16 _ _ ?_
          refine gT [box b3 _, box b5 _, box b6 _, box b7 _, rowl _ _ _ _ _ _, box b10 _] rfl ?_
          refine gfrom [(3, .pointer _), (5, .pointer _), (8, .slice Av _ cv), (10, .pointer _), (23, .slice _ _ _), (24, .int _ _), (25, .int _ _)] ⟨rfl, rfl, rfl, rfl, rfl, rfl, rfl, trivial⟩ fun σ => ?_
          refine greg_e1 [] [(4, emp)] (by kernel_rfl) ?_
          refine ge_take 0 (TK := [box b3 _, box b5 _, box b6 _, box b7 _, emp, box b10 _]) rfl (by kernel_rfl) (by kernel_rfl) (by kernel_rfl) #[false, true, true, true, true, true, true, true, true, false, false] (by kernel_rfl) rfl (y_move (v := .slice Av _ cv) rfl) rfl rfl rfl (weak_emp 4 rfl) (listed' := #[true, false, false, false, false, false, false, false, false, false, false]) rfl ?_
          refine ge_take 1 (TK := [box b3 _, box b5 _, box b6 _, box b7 _, emp, box b10 _]) rfl (by kernel_rfl) (by kernel_rfl) (by kernel_rfl) #[true, false, false, true, true, true, true, false, false, false, false] (by kernel_rfl) rfl (y_fieldAddr_box fa70_2 rfl) rfl rfl rfl (weak_emp 4 rfl) (listed' := #[true, true, false, false, false, false, false, false, false, false, false]) rfl ?_
          refine ge_take 2 (TK := [box b3 _, box b5 _, box b6 _, box b7 _, emp, box b10 _]) rfl (by kernel_rfl) (by kernel_rfl) (by kernel_rfl) #[true, true, false, true, true, true, true, false, false, false, false] (by kernel_rfl) rfl (y_load Tryz.isAgg3 rfl (cell_box 5 rfl rfl)) rfl rfl rfl (weak_emp 4 rfl) (listed' := #[true, true, true, false, false, false, false, false, false, false, false]) rfl ?_
          refine ge_take 3 (TK := [box b3 _, box b5 _, box b6 _, box b7 _, emp, box b10 _]) rfl (by kernel_rfl) (by kernel_rfl) (by kernel_rfl) #[true, true, true, false, true, true, false, false, false, false, false] (by kernel_rfl) rfl (y_loads (cs := [_]) Tryz.isAgg61 Tryz.sizeOf61 rfl rfl (cells_box 0 rfl)) rfl rfl rfl (weak_emp 4 rfl) (listed' := #[true, true, true, true, false, false, false, false, false, false, false]) rfl ?_
          refine ge_take 4 (TK := [box b3 _, box b5 _, box b6 _, box b7 _, emp, box b10 _]) rfl (by kernel_rfl) (by kernel_rfl) (by kernel_rfl) #[true, true, true, true, false, false, false, false, false, false, false] (by kernel_rfl) rfl (y_fieldAddr_box fa70_1 rfl) rfl rfl rfl (weak_emp 4 rfl) (listed' := #[true, true, true, true, true, false, false, false, false, false, false]) rfl ?_
          refine ge_take 5 (TK := [box b3 _, box b5 _, box b6 _, box b7 _, emp, box b10 _]) rfl (by kernel_rfl) (by kernel_rfl) (by kernel_rfl) #[true, true, true, true, true, false, false, false, false, false, false] (by kernel_rfl) rfl (y_load Tryz.isAgg9 rfl (cell_box 5 rfl rfl)) rfl rfl rfl (weak_emp 4 rfl) (listed' := #[true, true, true, true, true, true, false, false, false, false, false]) rfl ?_
          refine ge_one 6 (k' := 0) (listed' := #[true, true, true, true, true, true, true, false, false, false, false]) (by kernel_rfl) rfl rfl rfl ?_
          refine gop_pure (e_call (vs := [.agg #[_], .string _]) Tryz.func37 rfl (by kernel_rfl) rfl) (fun w hM => describe_any w A c fs (hR.base hM) v l[k].path) rfl rfl rfl ?_
          refine gops_nil ?_
          refine ge_fin (TK := [box b3 _, box b5 _, box b6 _, box b7 _, emp, box b10 _]) rfl (weak_emp 4 rfl) ?_
          refine ge_take 7 (TK := [box b3 _, box b5 _, box b6 _, box b7 _, emp, box b10 _]) rfl (by kernel_rfl) (by kernel_rfl) (by kernel_rfl) #[true, true, true, true, true, true, true, false, false, false, false] (by kernel_rfl) rfl (y_eql rfl rfl) rfl rfl rfl (weak_emp 4 rfl) (listed' := #[true, true, true, true, true, true, true, true, false, false, false]) rfl ?_
          refine ge_one 8 (k' := 0) (listed' := #[true, true, true, true, true, true, true, true, true, false, false]) (by kernel_rfl) rfl rfl rfl ?_
          refine gop_lit (vs := [.bool _]) (cells := #[_]) Tryz.underlying46 Tryz.sizeOf4 Tryz.zeroValue4 rfl (by decide) (by decide) rfl rfl rfl rfl (fun b37 hb37 => ?_)
          refine gops_nil ?_
          refine ge_fin (TK := [box b3 _, box b5 _, box b6 _, box b7 _, emp, box b10 _]) rfl (weak_trans (weak_take (T' := [box b3 _, box b5 _, box b6 _, box b7 _, rowl _ _ _ _ _ _, box b10 _]) rfl) (weak_emp 4 rfl)) ?_
          refine ge_one 9 (k' := 0) (listed' := #[true, true, true, true, true, true, true, true, true, true, false]) (by kernel_rfl) rfl rfl rfl ?_
          refine gop_append 4 (f := boolCells) (l2 := [decide (l[k].dig = descP (fpl fs) l[k].path)]) Tryz.underlying46 el4 wide_bool (v := .slice Av _ cv) rfl rfl rfl rfl (fun h => by cases h) (by simp [maxLen, validL]; omega) (by simp [validL]; omega) (src_box 6 rfl rfl) rfl (fun v38 => ?_)
          refine gops_fact (fun w hM => own_form (hM.own 4 rfl)) ?_
          rintro ⟨A38, c38, rfl, hc38, hm38⟩
          refine gops_nil ?_
          refine ge_fin (TK := [box b3 _, box b5 _, box b6 _, box b7 _, emp, box b10 _]) rfl (weak_trans (weak_take (T' := [box b3 _, box b5 _, box b6 _, box b7 _, rowl _ _ _ _ _ _, box b10 _]) rfl) (weak_emp 4 rfl)) ?_
          refine ge_take 10 (TK := [box b3 _, box b5 _, box b6 _, box b7 _, emp, box b10 _]) rfl (by kernel_rfl) (by kernel_rfl) (by kernel_rfl) #[true, true, true, true, true, true, true, true, true, true, false] (by kernel_rfl) rfl (y_assign (v := .slice A38 _ c38) rfl) rfl rfl rfl (weak_trans (weak_take (T' := [box b3 _, box b5 _, box b6 _, box b7 _, rowl _ _ _ _ _ _, box b10 _]) rfl) (weak_emp 4 rfl)) (listed' := #[true, true, true, true, true, true, true, true, true, true, true]) rfl ?_
          refine ge_done (by kernel_rfl) ?_
          refine hN15 _ _ ?_
          refine gT [box b3 _, box b5 _, box b6 _, box b7 _, rowl _ _ _ _ _ _, box b10 _, box b37 _] rfl ?_
          refine gfrom [(3, .pointer _), (5, .pointer _), (8, .slice A38 _ c38), (23, .slice _ _ _), (24, .int _ _), (25, .int _ _)] ⟨rfl, rfl, rfl, rfl, rfl, rfl, trivial⟩ fun σ => ?_
          refine greg ?_
          refine gop (y_add rfl rfl ⟨by omega, by omega⟩) rfl rfl rfl ?_
          refine gop (y_move (v := .int _ _) rfl) rfl rfl rfl ?_
          refine gops_nil ?_
          rw [← validL_succ hk1]
          refine gnext2 ((k + 1, A38, c38)) (by show l.length - (k + 1) < l.length - k; omega) (show k + 1 ≤ _ by omega) ⟨(by rw [validL_succ hk1]; rfl), rfl, trivial⟩ ⟨rfl, rfl, rfl, rfl, trivial⟩ ⟨_, rfl⟩
        · 
          replace hc26 := of_decide_eq_false hc26
          refine gexit ?_
          refine hN11 _ _ ?_
          refine gfrom [(5, .pointer _), (8, .slice Av _ cv)] ⟨rfl, rfl, trivial⟩ fun σ => ?_
          refine gseq fun N17 hN17 => ?_
          refine greg ?_
          refine gop (y_move (v := .slice Av _ cv) rfl) rfl rfl rfl ?_
          refine gop (y_build (vs := []) (cells := #[.int .i64 0, .int .i64 0]) rfl bd33_) rfl rfl rfl ?_
          refine gop (y_assign (v := .slice Av _ cv) rfl) rfl rfl rfl ?_
          refine gop_store 1 (v := .agg #[_, _]) (cs' := #[_, _]) rfl rfl Tryz.sizeOf33 rfl rfl rfl rfl (Nat.le_of_ble_eq_true rfl) rfl rfl ?_
          refine gops_nil ?_
          refine hN17 _ _ ?_
          refine gT [box b3 _, box b5 _, box b6 _, box b7 _, rowl _ _ _ _ _ _] rfl ?_
          refine gfrom [(4, .slice Av _ cv), (5, .pointer _)] ⟨rfl, rfl, trivial⟩ fun σ => ?_
          refine gret fun w1 hM => ?_
          refine ⟨_, res2 rfl (rt (v := .slice Av _ cv) rfl) (rc 1 (cs := [_, _]) hM rfl rfl Tryz.isAgg33 Tryz.sizeOf33 rfl), ?_⟩
          have hke : l.take k = l := List.take_of_length_le (by omega)
          rw [hke] at hM
          exact ⟨_, _, by rw [hF, hke], by rw [validV, if_pos hF]; rfl, hM.dropTo 4 rfl⟩
end Go.Proofs.YtbkameioedmlkaaGreatDoor
namespace Go.Proofs
open Go.Shelf
def Tryz.growF_ren : Go.Shelf.Ren := ⟨fun | 4 => 103 | n => n, fun | 22 => 59 | 25 => 85 | 3 => 3 | 4 => 4 | 9 => 9 | 20 => 20 | 0 => 0 | n => n, fun | n => n⟩
theorem Tryz.growF : Go.Proofs.Lays8.n4 Tryz.prog Tryz.growF_ren := {
  mixed := by kernel_rfl
  f4 := ⟨Tryz.f103.name, by decide, Tryz.func103.trans (congrArg some (by kernel_rfl))⟩
  t0 := Tryz.underlying0
  a0 := Tryz.isAgg0
  z0 := Tryz.sizeOf0
  v0 := Tryz.zeroValue0
  t3 := Tryz.underlying3
  a3 := Tryz.isAgg3
  z3 := Tryz.sizeOf3
  v3 := Tryz.zeroValue3
  t4 := Tryz.underlying4
  a4 := Tryz.isAgg4
  z4 := Tryz.sizeOf4
  v4 := Tryz.zeroValue4
  t9 := Tryz.underlying9
  a9 := Tryz.isAgg9
  z9 := Tryz.sizeOf9
  v9 := Tryz.zeroValue9
  t20 := Tryz.underlying20
  a20 := Tryz.isAgg20
  z20 := Tryz.sizeOf20
  v20 := Tryz.zeroValue20
  t22 := Tryz.underlying59
  a22 := Tryz.isAgg59
  z22 := Tryz.sizeOf59
  v22 := Tryz.zeroValue59 }
end Go.Proofs
namespace Go.Proofs.YtbkameioedmlkaaGreatDoor
open Go.RowKit Go.Cf Go.Sort
theorem elFile : Elem Tryz.prog 85 2 40 := elem_of (z := .agg #[.string .empty, .slice none 0 0]) (by kernel_rfl) rfl (by decide)
theorem growF_any (w : World) (n : Nat) (hn : n ≤ 1000) :
    Calls Tryz.prog 103 #[.slice none 0 0, .int .i64 (n : Int)] w fun e w' => ∃ v T', e = .returned v ∧ T' = [rowl fileCells w.heap.size 85 2 v []] ∧ Mem w T' w' := by
  rcases Nat.eq_zero_or_pos n with rfl | hn0
  · exact (Any8.slices_Grow_room Tryz.growF none 0 0 0 w (Nat.le_refl _) (by omega) (by omega) (by omega)).mono fun _ _ ⟨h1, h2⟩ => ⟨_, _, h1, rfl, by rw [h2]; exact mem_nilrow fileCells _ 2 (Mem.start w)⟩
  · obtain ⟨i0, z, hi, hz, hs, hb, hzc, hp⟩ := elFile
    refine (Any8.slices_Grow_grow Tryz.growF i0 z hi hz (by omega) none 0 0 n [] w (Nat.le_refl _) (by omega) (by rw [hb]; omega) (by omega) (by simp) (fun _ => rfl) (fun a h => by cases h)).mono fun _ w' ⟨h1, h2⟩ => ⟨_, _, h1, rfl, ?_⟩
    have hm : grownCap w (0 + n) 0 85 ≤ maxLen := grownCap_le_maxLen w _ _ _ (by unfold maxLen; omega)
    have hg : 0 + n ≤ grownCap w (0 + n) 0 85 := grownCap_ge w _ _ _
    have hbl : Below w.heap.size w w' := by
      rw [h2]
      exact ((Below.refl _ _).drew).alloc (Nat.le_refl _) _
    have hsz : w'.heap.size = w.heap.size + 1 := by rw [h2]; simp [World.alloc, World.drew, -World.alloc_eq, -World.drew_eq]
    have ho : w'.ownsRow w.heap.size 85 2 (.slice (some ⟨w.heap.size, 0, none⟩) 0 (grownCap w (0 + n) 0 85)) 0 [] := by
      rw [h2]
      exact World.ownsRow_made w.drew _ _ (Nat.le_refl _) hm (by
        simp only [Array.size_append, List.size_toArray, List.length_nil, size_zeroCells, hzc]
        show 0 + (0 + n - 0) * 2 + (grownCap w (0 + n) 0 85 - (0 + n)) * 2 = grownCap w (0 + n) 0 85 * 2
        omega)
    refine (Mem.start w).add hbl ho ?_
    intro b h9
    have hb' : some w.heap.size = some b := h9
    injection hb' with hb'
    omega
theorem flat_strs (l : List ByteArray) : l.flatMap strCells = (l.map fun s => s.data.toList).map encStr := by
  induction l with
  | nil => rfl
  | cons a l ih => rw [List.flatMap_cons, ih]; rfl
theorem strs_ob (l : List (List UInt8)) : (l.map ob).flatMap strCells = l.map encStr := by
  induction l with
  | nil => rfl
  | cons a l ih => rw [List.map_cons, List.flatMap_cons, ih]; rfl
def sortS (l : List ByteArray) : List ByteArray := (sortL (l.map fun s => s.data.toList)).map ob
theorem sortS_len (l : List ByteArray) : (sortS l).length = l.length := by simp [sortS, sortL_len]
theorem sortS_on (w0 w : World) (fr : Reg) (A : Option Addr) (c base : Nat) (l : List ByteArray) (hM : Mem w0 [rowl strCells base 9 1 (.slice A l.length c) l, fr] w) (hl : l.length < 1000000) :
    Calls Tryz.prog 73 #[.slice A l.length c] w fun e w' => ∃ v r' G, e = .returned v ∧ (v = .tuple #[] ∧ r' = rowl strCells base 9 1 (.slice A l.length c) (sortS l) ∧ G = []) ∧ Mem w0 (r' :: fr :: G) w' := by
  have hown := hM.own 0 rfl
  rcases hown.2 with ⟨h1, h0⟩ | ⟨g, cap, cur, hv, hbase, hb, h1, h2, h3, h4⟩
  · have hl0 : l = [] := List.eq_nil_of_length_eq_zero h0
    subst hl0
    cases h1
    exact (Tryz.slices_Sort_string_none none 0 w).mono fun _ _ ⟨h1, h2⟩ => ⟨_, _, _, h1, ⟨rfl, rfl, rfl⟩, by subst h2; rw [show sortS [] = [] from List.eq_nil_of_length_eq_zero (sortS_len [])]; exact hM⟩
  · cases hv
    have hH := holds_of_block hb (ss := l.map fun s => s.data.toList) (by rw [← flat_strs]; simpa using h4)
    have hc := Tryz.slices_Sort_string g 0 c (l.map fun s => s.data.toList) w hH (Array.getElem?_eq_some_iff.1 hb).1 (by simp; omega)
    rw [List.length_map] at hc
    refine hc.mono fun _ w' ⟨h5, n, os, h6⟩ => ⟨_, _, _, h5, ⟨rfl, rfl, rfl⟩, ?_⟩
    have ho := ownsRow_sorted (n := n) (os := os) (ss := l.map fun s => s.data.toList) (ts := sortL (l.map fun s => s.data.toList)) (sortL_len _) hbase hb (by simpa using h1) h2 h3
    have hg := grownBy_sorted (w := w) (g := g) (n := n) (os := os) (sortL (l.map fun s => s.data.toList)).toArray
    rw [show (sortL (l.map fun s => s.data.toList)).toArray = ((l.map fun s => s.data.toList).mergeSort fun x y => decide (x ≤ y)).toArray from rfl, ← h6] at ho hg
    refine hM.upd (i := 0) rfl ((Chg.of_grownBy hg)) ?_ (fun k hk => ?_)
    · show w'.ownsRow _ _ _ _ (sortS l).length ((sortS l).flatMap strCells)
      rw [sortS_len, sortS, strs_ob]
      rw [List.length_map] at ho
      exact ho
    · have hk' : some g = some k := hk
      injection hk' with hk'
      subst hk'
      exact ⟨.inl rfl, Nat.lt_of_lt_of_le (hM.lt _ (List.mem_of_getElem? (i := 0) rfl) g rfl) hg.size⟩
theorem own_cutS {α : Type} {f : α → List Value} {l m : List α} {size base g n c : Nat} {e : TypeId} {w : World} (hf : ∀ x, (f x).length = size) (h : w.ownsRow base e size (.slice (some ⟨g, 0, none⟩) n c) (l ++ m).length ((l ++ m).flatMap f)) :
    w.ownsRow base e size (.slice (some ⟨g, 0, none⟩) l.length c) l.length (l.flatMap f) := by
  rcases h.2 with ⟨h1, _⟩ | ⟨g', cap, cur, h1, h2, h3, h4, h5, h6, h7⟩
  · cases h1
  · simp only [Value.slice.injEq, Option.some.injEq, Addr.mk.injEq] at h1
    obtain ⟨⟨rfl, _, _⟩, _, rfl⟩ := h1
    refine ⟨flat_len hf l, .inr ⟨g, c, cur, rfl, h2, h3, by simp at h4; omega, h5, h6, ?_⟩⟩
    have h8 := congrArg (List.take (l.length * size)) h7
    rw [List.take_take, List.flatMap_append, List.take_append_of_le_length (by rw [flat_len hf]; omega), List.take_of_length_le (l := l.flatMap f) (by rw [flat_len hf]; omega)] at h8
    rw [← h8]; congr 1
    rw [Nat.min_eq_left]
    exact Nat.mul_le_mul_right _ (by simp)
theorem compactS_on (w0 w : World) (fr : Reg) (A : Option Addr) (c base : Nat) (l : List ByteArray) (n : Nat) (hn : n = l.length) (hM : Mem w0 [rowl strCells base 9 1 (.slice A n c) (sortS l), fr] w) (hl : l.length < 1000000) :
    Calls Tryz.prog 74 #[.slice A n c] w fun e w' => ∃ v r' G, e = .returned v ∧ (r' = rowl strCells base 9 1 v (leafS l) ∧ G = []) ∧ Mem w0 (r' :: fr :: G) w' := by
  subst hn
  obtain ⟨z, hz⟩ : ∃ z, z = sortL (l.map fun s => s.data.toList) := ⟨_, rfl⟩
  have hzl : z.length = l.length := by rw [hz, sortL_len, List.length_map]
  have hle := Lib.compact_length_le z
  rw [sortS, ← hz] at hM
  rw [leafS, ← hz]
  have hown := hM.own 0 rfl
  rcases hown.2 with ⟨h1, h0⟩ | ⟨g, cap, cur, hv, hbase, hb, h1, h2, h3, h4⟩
  · have hz0 : z = [] := List.eq_nil_of_length_eq_zero (by simpa using h0)
    subst hz0
    simp only [Value.slice.injEq] at h1
    obtain ⟨rfl, h1a, rfl⟩ := h1
    rw [h1a] at hM ⊢
    exact (Tryz.slices_Compact_string_empty none 0 w).mono fun _ _ ⟨h1, h2⟩ => ⟨_, _, _, h1, ⟨rfl, rfl⟩, by subst h2; exact hM⟩
  · simp only [Value.slice.injEq] at hv
    obtain ⟨rfl, -, rfl⟩ := hv
    rw [List.length_map, hzl] at h1
    rw [List.length_map, strs_ob] at h4
    have hH := holds_of_block hb (ss := z) (by simpa using h4)
    have hc := Tryz.slices_Compact_string g 0 c z w hH (by omega) (by omega)
    rw [hzl] at hc
    refine hc.mono fun _ w' ⟨h5, n, h6⟩ => ⟨_, _, _, h5, ⟨rfl, rfl⟩, ?_⟩
    have ho := ownsRow_sorted (n := n) (os := #[]) (ss := z) (ts := Lib.compact z ++ List.replicate (z.length - (Lib.compact z).length) []) (by simp; omega) hbase hb (by omega) h2 h3
    have hg := grownBy_sorted (w := w) (g := g) (n := n) (os := #[]) (Lib.compact z ++ List.replicate (z.length - (Lib.compact z).length) []).toArray
    rw [hzl] at ho hg
    rw [Sort.grow_empty, ← h6] at ho hg
    refine hM.upd (i := 0) rfl ((Chg.of_grownBy hg)) ?_ (fun k hk => ?_)
    · show w'.ownsRow _ _ _ _ ((Lib.compact z).map ob).length (((Lib.compact z).map ob).flatMap strCells)
      have hll : ((Lib.compact z ++ List.replicate (l.length - (Lib.compact z).length) []).map ob).length = l.length := by simp; omega
      have h9 := own_cutS (w := w') (f := strCells) (l := (Lib.compact z).map ob) (m := (List.replicate (l.length - (Lib.compact z).length) []).map ob) (size := 1) (base := base) (g := g) (n := l.length) (c := c) (e := 9) (fun _ => rfl) (by
        rw [← List.map_append, hll, strs_ob]; exact ho)
      rw [List.length_map] at h9 ⊢
      exact h9
    · have hk' : some g = some k := hk
      injection hk' with hk'
      subst hk'
      exact ⟨.inl rfl, Nat.lt_of_lt_of_le (hM.lt _ (List.mem_of_getElem? (i := 0) rfl) g rfl) hg.size⟩
end Go.Proofs.YtbkameioedmlkaaGreatDoor
namespace Go.Cf
open Go.RowKit
theorem treeF_code {fs : List FileP} (h : (treeF fs).code = 0) : treeF fs = ⟨0, 0⟩ := by
  unfold treeF at h ⊢
  split
  · rename_i h1; rw [if_pos h1] at h; cases h
  · rename_i h1; rw [if_neg h1] at h; exact scan_code_eq h
theorem apprF_code {l : List Appr} (h : (apprF l).code = 0) : apprF l = ⟨0, 0⟩ := by
  unfold apprF at h ⊢
  split
  · rename_i h1; rw [if_pos h1] at h; cases h
  · rename_i h1; rw [if_neg h1] at h; exact scan_code_eq h
theorem sec_eq {f : Fault} (i : Int) (hf : f.code = 0 → f = ⟨0, 0⟩) (h : (secondF f i).code = 0) : f = ⟨0, 0⟩ ∧ secondF f i = ⟨0, 0⟩ := by
  unfold secondF at h ⊢
  by_cases h1 : f ≠ ⟨0, 0⟩
  · rw [if_pos h1] at h; exact absurd (hf h) h1
  · rw [if_neg h1]; exact ⟨Classical.not_not.1 h1, rfl⟩
theorem approveF_ok {fs : List FileP} {u : Int} {ps : List ByteArray} (h1 : treeF fs = ⟨0, 0⟩) (h2 : ¬ (u < 0 ∨ 7 < u)) (h3 : ps.length ≤ 24) (h4 : ∀ j (h : j < ps.length), pathOk ps[j] = true) : approveF fs u ps = ⟨0, 0⟩ := by
  rw [approveF, if_neg (fun h9 => h9 h1), if_neg h2, if_neg (by omega)]
  exact scan_ok fun j hj => if_pos (h4 j hj)
theorem validF_code {l : List Appr} {fs : List FileP} (h : (validF l fs).code = 0) : validF l fs = ⟨0, 0⟩ ∧ apprF l = ⟨0, 0⟩ ∧ treeF fs = ⟨0, 0⟩ := by
  unfold validF at h ⊢
  by_cases h1 : apprF l ≠ ⟨0, 0⟩
  · rw [if_pos h1] at h; exact absurd (apprF_code h) h1
  rw [if_neg h1] at h ⊢
  have h2 := sec_eq _ treeF_code h
  exact ⟨h2.2, Classical.not_not.1 h1, h2.1⟩
theorem validF_ok {l : List Appr} {fs : List FileP} (h1 : apprF l = ⟨0, 0⟩) (h2 : treeF fs = ⟨0, 0⟩) : validF l fs = ⟨0, 0⟩ := by
  rw [validF, if_neg (fun h9 => h9 h1), h2]; rfl
theorem missF_code {rs : List Rule} {l : List Appr} {base tree : List FileP} (h : (missF rs l base tree).code = 0) :
    missF rs l base tree = ⟨0, 0⟩ ∧ apprF l = ⟨0, 0⟩ ∧ treeF tree = ⟨0, 0⟩ ∧ treeF base = ⟨0, 0⟩ ∧ rulesF rs = ⟨0, 0⟩ := by
  unfold missF at h ⊢
  by_cases h1 : validF l tree ≠ ⟨0, 0⟩
  · rw [if_pos h1] at h; exact absurd (validF_code h).1 h1
  rw [if_neg h1] at h ⊢
  have h1' := Classical.not_not.1 h1
  have h3 := validF_code (l := l) (fs := tree) (by rw [h1'])
  by_cases h2 : treeF base ≠ ⟨0, 0⟩
  · rw [if_pos h2] at h; exact absurd (sec_eq _ treeF_code h).1 h2
  rw [if_neg h2] at h ⊢
  have h4 := sec_eq _ rulesF_code h
  exact ⟨h4.2, h3.2.1, h3.2.2, Classical.not_not.1 h2, h4.1⟩
theorem missF_ok {rs : List Rule} {l : List Appr} {base tree : List FileP} (h1 : apprF l = ⟨0, 0⟩) (h2 : treeF tree = ⟨0, 0⟩) (h3 : treeF base = ⟨0, 0⟩) (h4 : rulesF rs = ⟨0, 0⟩) : missF rs l base tree = ⟨0, 0⟩ := by
  rw [missF, if_neg (fun h9 => h9 (validF_ok h1 h2)), if_neg (fun h9 => h9 h3), h4]; rfl
theorem chg_path {a b : List FileP} {p : ByteArray} (h : p ∈ chgL a b) : ∃ f ∈ a ++ b, f.path = p := by
  have h1 := leafS_mem.1 h
  have h2 := (List.mem_filter.1 h1).1
  exact List.mem_map.1 h2
theorem chg_ok {a b : List FileP} (ha : treeF a = ⟨0, 0⟩) (hb : treeF b = ⟨0, 0⟩) {p : ByteArray} (h : p ∈ chgL a b) : pathOk p = true := by
  obtain ⟨f, hf, rfl⟩ := chg_path h
  rcases List.mem_append.1 hf with h1 | h1
  · exact (treeF_valid ha).ok f h1
  · exact (treeF_valid hb).ok f h1
theorem chg_len {a b : List FileP} : (chgL a b).length ≤ a.length + b.length := by
  refine Nat.le_trans (leafS_len _) (Nat.le_trans (List.length_filter_le _ _) ?_)
  simp
def lastU (us : List Int) : Int := us[us.length - 1]?.getD 0
theorem lastU_get {us : List Int} (h : us.length - 1 < us.length) : lastU us = us[us.length - 1] := by rw [lastU, List.getElem?_eq_getElem h]; rfl
theorem lastU_mem {us : List Int} (h : us ≠ []) : lastU us ∈ us := by
  have h1 : us.length - 1 < us.length := by have := List.length_pos_iff.2 h; omega
  rw [lastU_get h1]; exact List.getElem_mem h1
def ownA (rs : List Rule) (tree : List FileP) (p : ByteArray) : Appr := ⟨lastU (findU rs p), p, descP tree p⟩
def allA (rs : List Rule) (tree : List FileP) (m : List ByteArray) : List Appr := m.map (ownA rs tree)
theorem miss_nil {rs : List Rule} {base tree : List FileP} {p : ByteArray} : p ∈ missL rs [] base tree ↔ p ∈ chgL base tree ∧ findU rs p ≠ [] := by
  unfold missL doneB
  rw [List.mem_filter]
  simp [List.length_eq_zero_iff]
theorem suff {rs : List Rule} {base tree : List FileP} : missL rs (allA rs tree (missL rs [] base tree)) base tree = [] := by
  have h0 := @miss_nil rs base tree
  generalize missL rs [] base tree = m at h0
  unfold missL
  refine List.filter_eq_nil_iff.2 fun p hp => ?_
  suffices h : doneB rs (allA rs tree m) tree p = true by rw [h]; simp
  unfold doneB
  by_cases h1 : findU rs p = []
  · rw [h1]; rfl
  · refine Bool.or_eq_true_iff.2 (.inr (List.any_eq_true.2 ⟨ownA rs tree p, List.mem_map.2 ⟨p, h0.2 ⟨hp, h1⟩, rfl⟩, ?_⟩))
    unfold coverB ownA
    simp [hasI_mem.2 (lastU_mem h1)]
theorem find_user {rs : List Rule} (h : rulesF rs = ⟨0, 0⟩) {p : ByteArray} {u : Int} (hu : u ∈ findU rs p) : 0 ≤ u ∧ u ≤ 7 := by
  rcases findU_mem rs p with h1 | ⟨r, hr, h1⟩
  · rw [h1] at hu; cases hu
  · rw [h1] at hu
    have h2 := (uCode_zero (ruleCode_zero (rulesF_each h r hr)).2.2).1 u hu
    exact ⟨h2.1, h2.2.1⟩
structure Suff (rs : List Rule) (base tree : List FileP) (m : List ByteArray) : Prop where
  ok : missF rs [] base tree = ⟨0, 0⟩
  m : m = missL rs [] base tree
theorem Suff.at_ {rs : List Rule} {base tree : List FileP} {m : List ByteArray} (h : Suff rs base tree m) {p : ByteArray} (hp : p ∈ m) :
    ofF rs p = ⟨0, 0⟩ ∧ ofV rs p = findU rs p ∧ findU rs p ≠ [] ∧ approveF tree (lastU (findU rs p)) [p] = ⟨0, 0⟩ ∧ approveV tree (lastU (findU rs p)) [p] = [ownA rs tree p] := by
  obtain ⟨-, -, ht, hb, hr⟩ := missF_code (rs := rs) (l := []) (base := base) (tree := tree) (by rw [h.ok])
  rw [h.m] at hp
  obtain ⟨h1, h2⟩ := miss_nil.1 hp
  have h3 := chg_ok hb ht h1
  have h4 := of_ok hr h3
  have h5 := find_user hr (lastU_mem h2)
  have h6 : approveF tree (lastU (findU rs p)) [p] = ⟨0, 0⟩ := approveF_ok ht (by omega) (by simp) (fun j hj => by
    have : j = 0 := by simpa using hj
    subst this; exact h3)
  exact ⟨h4.1, h4.2, h2, h6, by rw [approveV, if_pos h6]; rfl⟩
theorem dig_ok (tree : List FileP) (p : ByteArray) : -1 ≤ descP tree p ∧ descP tree p < dMod := by
  unfold descP
  split
  · rename_i f _; have := strD_bd f.lines; omega
  · exact ⟨Int.le_refl _, by decide⟩
theorem Suff.done {rs : List Rule} {base tree : List FileP} {m : List ByteArray} (h : Suff rs base tree m) (hl : (allA rs tree m).length ≤ 40) :
    missF rs (allA rs tree m) base tree = ⟨0, 0⟩ ∧ missV rs (allA rs tree m) base tree = [] := by
  obtain ⟨-, -, ht, hb, hr⟩ := missF_code (rs := rs) (l := []) (base := base) (tree := tree) (by rw [h.ok])
  have h1 : apprF (allA rs tree m) = ⟨0, 0⟩ := by
    rw [apprF, if_neg (by omega)]
    refine scan_ok fun j hj => ?_
    show apprCode _ = 0
    obtain ⟨p, hp, he⟩ := List.mem_map.1 (List.getElem_mem hj)
    rw [← he]
    rw [h.m] at hp
    obtain ⟨h2, h3⟩ := miss_nil.1 hp
    have h4 := find_user hr (lastU_mem h3)
    have h5 := dig_ok tree p
    rw [apprCode, if_neg (by show ¬ (lastU (findU rs p) < 0 ∨ 7 < lastU (findU rs p) ∨ descP tree p < -1 ∨ dMod ≤ descP tree p); omega), if_pos (show pathOk (ownA rs tree p).path = true from chg_ok hb ht h2)]
  have h2 := missF_ok h1 ht hb hr
  refine ⟨h2, ?_⟩
  rw [missV, if_pos h2, h.m]
  exact suff
def AppChk (fs : List FileP) (u : Int) (ps : List ByteArray) (k : Nat) (q : Fault) : Prop :=
  (q = ⟨0, 0⟩ ∧ treeF fs = ⟨0, 0⟩ ∧ ¬ (u < 0 ∨ 7 < u) ∧ ps.length ≤ 24 ∧ ∀ j (h : j < ps.length), j < k → pathOk ps[j] = true) ∨ (q.code ≠ 0 ∧ approveF fs u ps = q)
section
variable {fs : List FileP} {u : Int} {ps : List ByteArray} {k : Nat} {q : Fault}
theorem AppChk.good (h : AppChk fs u ps k q) (hq : q.code = 0) : q = ⟨0, 0⟩ ∧ treeF fs = ⟨0, 0⟩ ∧ ¬ (u < 0 ∨ 7 < u) ∧ ps.length ≤ 24 ∧ ∀ j (h : j < ps.length), j < k → pathOk ps[j] = true := by
  rcases h with h | h
  · exact h
  · exact absurd hq h.1
theorem AppChk.ok (h : AppChk fs u ps k q) (hq : q.code = 0) (hk : k < ps.length) (hp : pathOk ps[k] = true) : AppChk fs u ps (k + 1) q := by
  obtain ⟨h1, h2, h3, h4, h5⟩ := h.good hq
  refine .inl ⟨h1, h2, h3, h4, fun j hj hjk => ?_⟩
  rcases Nat.lt_succ_iff_lt_or_eq.1 hjk with h9 | rfl
  · exact h5 j hj h9
  · exact hp
theorem AppChk.done (h : AppChk fs u ps k q) (hst : ¬ (k < ps.length ∧ q.code = 0)) : approveF fs u ps = q := by
  by_cases hq : q.code = 0
  · obtain ⟨h1, h2, h3, h4, h5⟩ := h.good hq
    rw [h1]
    exact approveF_ok h2 h3 h4 fun j hj => h5 j hj (by omega)
  · rcases h with h | h
    · exact absurd (congrArg Fault.code h.1) hq
    · exact h.2
end
abbrev xA : ByteArray := ⟨#[97]⟩
abbrev xB : ByteArray := ⟨#[98]⟩
abbrev xTree : List FileP := [⟨xA, [⟨#[120]⟩]⟩]
abbrev xRules : List Rule := [⟨⟨#[42, 42]⟩, [1]⟩]
theorem aex_tree : treeF xTree = ⟨0, 0⟩ := by decide +kernel
theorem aex_rules : rulesF xRules = ⟨0, 0⟩ := by decide +kernel
theorem aex_findA : findU xRules xA = [1] := by decide +kernel
theorem aex_chg : chgL [] xTree = [xA] := by
  have h1 : ((([] : List FileP) ++ xTree).map FileP.path).filter (diffAt [] xTree) = [xA] := by decide +kernel
  rw [chgL, h1]
  have h2 : ∀ x, x ∈ leafS [xA] ↔ x ∈ [xA] := fun x => leafS_mem
  exact inc_ext (leafS_pair _) (List.pairwise_singleton _ _) h2
theorem aex_app : approveF xTree 1 [xA, xB] = ⟨0, 0⟩ := by decide +kernel
theorem aex_f1 : missF xRules [] [] xTree = ⟨0, 0⟩ := missF_ok rfl aex_tree (by decide +kernel) aex_rules
theorem aex_m1 : missV xRules [] [] xTree = [xA] := by
  rw [missV, if_pos aex_f1, missL, aex_chg]
  have h1 : doneB xRules [] xTree xA = false := by rw [doneB, aex_findA]; rfl
  simp [h1]
theorem aex_none : descP xTree xB = -1 := by
  have h1 : findP xTree xB = none := by decide +kernel
  rw [descP, h1]
theorem aex_l : approveV xTree 1 [xA, xB] = [⟨1, xA, descP xTree xA⟩, ⟨1, xB, -1⟩] := by
  rw [approveV, if_pos aex_app, ← aex_none]; rfl
theorem aex_af : apprF [⟨1, xA, descP xTree xA⟩, ⟨1, xB, -1⟩] = ⟨0, 0⟩ := by
  obtain ⟨h1, h2⟩ := dig_ok xTree xA
  generalize descP xTree xA = d at h1 h2
  rw [apprF, if_neg (by simp)]
  refine scan_ok fun j hj => ?_
  have hj' : j < 2 := hj
  show apprCode _ = 0
  rcases Nat.lt_succ_iff_lt_or_eq.1 hj' with h | rfl
  · obtain rfl : j = 0 := by omega
    show apprCode ⟨1, xA, d⟩ = 0
    rw [apprCode, if_neg (by show ¬ ((1 : Int) < 0 ∨ 7 < (1 : Int) ∨ d < -1 ∨ dMod ≤ d); omega), if_pos (show pathOk xA = true by decide +kernel)]
  · show apprCode ⟨1, xB, -1⟩ = 0
    decide +kernel
theorem aex_v : validV [⟨1, xA, descP xTree xA⟩, ⟨1, xB, -1⟩] xTree = [true, true] := by
  rw [validV, if_pos (validF_ok aex_af aex_tree)]
  simp [validL, aex_none]
theorem aex_vf : validF [⟨1, xA, descP xTree xA⟩, ⟨1, xB, -1⟩] xTree = ⟨0, 0⟩ := validF_ok aex_af aex_tree
theorem aex_f2 : missF xRules [⟨1, xA, descP xTree xA⟩, ⟨1, xB, -1⟩] [] xTree = ⟨0, 0⟩ := missF_ok aex_af aex_tree (by decide +kernel) aex_rules
theorem aex_m2 : missV xRules [⟨1, xA, descP xTree xA⟩, ⟨1, xB, -1⟩] [] xTree = [] := by
  rw [missV, if_pos aex_f2, missL, aex_chg]
  have h1 : doneB xRules [⟨1, xA, descP xTree xA⟩, ⟨1, xB, -1⟩] xTree xA = true := by
    rw [doneB, aex_findA]
    refine Bool.or_eq_true_iff.2 (.inr (List.any_eq_true.2 ⟨_, .head _, ?_⟩))
    unfold coverB
    simp [show hasI [1] 1 = true from rfl]
  simp [h1]
end Go.Cf
