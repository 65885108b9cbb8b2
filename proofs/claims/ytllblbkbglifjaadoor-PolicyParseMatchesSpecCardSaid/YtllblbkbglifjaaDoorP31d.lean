/- Own frame, plain models and walks, part 4 (texts of this claim put together). -/
import Derived.Test.YtllblbkbglifjaaDoorP31c
import Derived.Laws.Bits64
namespace Go.Cf
def Dig (c : UInt8) : Prop := 48 ≤ c.toNat ∧ c.toNat ≤ 57
instance (c : UInt8) : Decidable (Dig c) := by unfold Dig; infer_instance
def valE : List UInt8 → Nat → Nat
  | [], a => a
  | c :: r, a => valE r (10 * a + (c.toNat - 48))
def valD (acc : Nat) (l : List UInt8) : Nat := valE l acc
theorem valD_nil (acc : Nat) : valD acc [] = acc := rfl
theorem valE_cons (acc : Nat) (c : UInt8) (r : List UInt8) : valE (c :: r) acc = valE r (10 * acc + (c.toNat - 48)) := rfl
theorem valD_cons (acc : Nat) (c : UInt8) (r : List UInt8) : valD acc (c :: r) = valD (10 * acc + (c.toNat - 48)) r := valE_cons acc c r
attribute [irreducible] valD
theorem valD_ge : ∀ (l : List UInt8) (acc : Nat), acc * 10 ^ l.length ≤ valD acc l
  | [], acc => by rw [valD_nil]; simp
  | c :: r, acc => by
    have h := valD_ge r (10 * acc + (c.toNat - 48))
    rw [valD_cons, List.length_cons, Nat.pow_succ]
    refine Nat.le_trans ?_ h
    have h2 : acc * (10 ^ r.length * 10) = (10 * acc) * 10 ^ r.length := by rw [Nat.mul_comm (10 ^ r.length) 10, ← Nat.mul_assoc, Nat.mul_comm acc 10]
    rw [h2]
    exact Nat.mul_le_mul_right _ (by omega)
theorem valD_acc (l : List UInt8) (acc : Nat) : acc ≤ valD acc l :=
  Nat.le_trans (by have : 0 < 10 ^ l.length := Nat.pos_of_ne_zero (by simp); exact Nat.le_mul_of_pos_right _ this) (valD_ge l acc)
theorem valD_app : ∀ (a b : List UInt8) (acc : Nat), valD acc (a ++ b) = valD (valD acc a) b
  | [], b, acc => by rw [valD_nil]; rfl
  | c :: a, b, acc => by rw [List.cons_append, valD_cons, valD_cons, valD_app a b]
theorem parse_val : ∀ (l : List UInt8) (acc : Nat), (∀ c ∈ l, Dig c) → valD acc l < 18446744073709551616 → Lib.parseUint10 acc l = .ok (valD acc l)
  | [], acc, _, _ => by rw [valD_nil]; rfl
  | c :: r, acc, hd, hv => by
    rw [valD_cons] at hv ⊢
    have h1 := valD_acc r (10 * acc + (c.toNat - 48))
    have h2 := hd c (by simp)
    rw [Lib.parseUint10, if_pos (show 48 ≤ c.toNat ∧ c.toNat ≤ 57 from h2), if_neg (by omega), if_neg (by omega)]
    rw [show acc * 10 + (c.toNat - 48) = 10 * acc + (c.toNat - 48) by omega]
    exact parse_val r _ (fun c hc => hd c (by simp [hc])) hv
structure Canon (l : List UInt8) : Prop where
  ne : l ≠ []
  dig : ∀ c ∈ l, Dig c
  head : l.head? = some 48 → l = [48]
theorem dig_of {k : Nat} (h : k < 10) : Dig (UInt8.ofNat (48 + k)) ∧ (UInt8.ofNat (48 + k)).toNat = 48 + k := by
  have : (UInt8.ofNat (48 + k)).toNat = 48 + k := by rw [UInt8.toNat_ofNat']; omega
  exact ⟨by unfold Dig; omega, this⟩
theorem dec_canon (u : Nat) : Canon (Lib.decDigits u) ∧ valD 0 (Lib.decDigits u) = u ∧ ((Lib.decDigits u).head? = some 48 → u = 0) := by
  induction u using Nat.strongRecOn with
  | _ u ih =>
    rw [Lib.decDigits]
    split
    · rename_i h
      obtain ⟨h1, h2⟩ := dig_of h
      have h0 : (UInt8.ofNat (48 + u)) = 48 → u = 0 := fun e => by rw [e] at h2; have : (48 : UInt8).toNat = 48 := rfl; omega
      refine ⟨⟨by simp, fun c hc => by rw [List.mem_singleton.1 hc]; exact h1, fun e => ?_⟩, ?_, fun e => ?_⟩
      · rw [Option.some.inj e]
      · rw [valD_cons, valD_nil]; omega
      · exact h0 (Option.some.inj e)
    · rename_i h
      obtain ⟨⟨a1, a2, a3⟩, b, c⟩ := ih (u / 10) (by omega)
      obtain ⟨h1, h2⟩ := dig_of (k := u % 10) (by omega)
      have hh : (Lib.decDigits (u / 10) ++ [UInt8.ofNat (48 + u % 10)]).head? = (Lib.decDigits (u / 10)).head? := by
        cases hd : Lib.decDigits (u / 10) with
        | nil => exact absurd hd a1
        | cons x r => rfl
      have no : (Lib.decDigits (u / 10) ++ [UInt8.ofNat (48 + u % 10)]).head? ≠ some 48 := fun e => by
        rw [hh] at e; have := c e; omega
      refine ⟨⟨by simp, fun x hx => ?_, fun e => absurd e no⟩, ?_, fun e => absurd e no⟩
      · rcases List.mem_append.1 hx with hx | hx
        · exact a2 x hx
        · rw [List.mem_singleton.1 hx]; exact h1
      · rw [valD_app, b, valD_cons, valD_nil]; omega
theorem canon_dec : ∀ (n : Nat) (l : List UInt8), l.length = n → Canon l → Lib.decDigits (valD 0 l) = l := by
  intro n
  induction n with
  | zero => intro l hl h; exact absurd (List.eq_nil_of_length_eq_zero hl) h.ne
  | succ n ih =>
    intro l hl h
    obtain ⟨a, c, rfl⟩ : ∃ a c, l = a ++ [c] := ⟨l.dropLast, l.getLast h.ne, (List.dropLast_concat_getLast _).symm⟩
    have hc : Dig c := h.dig c (by simp)
    have hc2 : UInt8.ofNat (48 + (c.toNat - 48)) = c := by
      rw [show 48 + (c.toNat - 48) = c.toNat by unfold Dig at hc; omega]; exact UInt8.ofNat_toNat
    have hlt : c.toNat - 48 < 10 := by unfold Dig at hc; omega
    rw [valD_app, valD_cons, valD_nil]
    cases a with
    | nil =>
      rw [valD_nil, Nat.mul_zero, Nat.zero_add, List.nil_append, Lib.decDigits, dif_pos hlt, hc2]
    | cons x r =>
      have hx : Dig x := h.dig x (by simp)
      have hx48 : x ≠ 48 := fun e => by
        have := h.head (by simp [e])
        simp at this
      have hx1 : 1 ≤ x.toNat - 48 := by
        have : x.toNat ≠ 48 := fun e => hx48 (UInt8.toNat_inj.1 (by rw [e]; rfl))
        unfold Dig at hx; omega
      have hge : 1 ≤ valD 0 (x :: r) := by
        rw [valD_cons]
        exact Nat.le_trans (by omega) (valD_acc r (10 * 0 + (x.toNat - 48)))
      have hcan : Canon (x :: r) := ⟨by simp, fun y hy => h.dig y (by simp at hy ⊢; rcases hy with hy | hy <;> simp [hy]), fun e => absurd (by simpa using e) hx48⟩
      have e1 := ih (x :: r) (by simp at hl ⊢; omega) hcan
      obtain ⟨v, hv⟩ : ∃ v, valD 0 (x :: r) = v := ⟨_, rfl⟩
      rw [hv] at e1 hge ⊢
      rw [Lib.decDigits, dif_neg (by omega), show (10 * v + (c.toNat - 48)) / 10 = v by omega, show (10 * v + (c.toNat - 48)) % 10 = c.toNat - 48 by omega, e1, hc2]
theorem canon_len {l : List UInt8} (h : Canon l) (hv : valD 0 l ≤ 9223372036854775808) : l.length ≤ 19 := by
  cases l with
  | nil => exact Nat.zero_le _
  | cons x r =>
    cases r with
    | nil => simp
    | cons y r =>
      have hx : Dig x := h.dig x (by simp)
      have hx48 : x ≠ 48 := fun e => by have := h.head (by simp [e]); simp at this
      have hx1 : 1 ≤ x.toNat - 48 := by
        have : x.toNat ≠ 48 := fun e => hx48 (UInt8.toNat_inj.1 (by rw [e]; rfl))
        unfold Dig at hx; omega
      rw [valD_cons] at hv
      have h1 := valD_ge (y :: r) (10 * 0 + (x.toNat - 48))
      have h2 : 10 ^ (y :: r).length ≤ (10 * 0 + (x.toNat - 48)) * 10 ^ (y :: r).length := Nat.le_mul_of_pos_left _ (by omega)
      have h3 : 10 ^ (y :: r).length ≤ 9223372036854775808 := by omega
      rw [List.length_cons]
      rcases Nat.lt_or_ge 18 (y :: r).length with h4 | h4
      · have h5 : (10 : Nat) ^ 19 ≤ 10 ^ (y :: r).length := Nat.pow_le_pow_right (by omega) h4
        have h6 : (10 : Nat) ^ 19 = 10000000000000000000 := by decide
        omega
      · omega
def numL (s : List UInt8) : Option Int := match Lib.atoiAll s with
  | .ok n => if Lib.itoa n = s then some n else none
  | _ => none
def bodyD (s : List UInt8) : List UInt8 := if s.head? = some 45 then s.tail else s
def docBad1 (s : List UInt8) : Prop := bodyD s = [] ∨ ((bodyD s).head? = some 48 ∧ s ≠ [48])
def docBad2 (s : List UInt8) : Prop := (∃ c ∈ bodyD s, ¬ Dig c) ∨ 19 < (bodyD s).length
def docBad3 (s : List UInt8) : Prop := 9223372036854775808 < valD 0 (bodyD s) ∨ (valD 0 (bodyD s) = 9223372036854775808 ∧ bodyD s = s)
def docV (s : List UInt8) : Int := if s.head? = some 45 then -(valD 0 (bodyD s) : Int) else valD 0 (bodyD s)
theorem body_canon {s : List UInt8} (h1 : ¬ docBad1 s) (h2 : ¬ docBad2 s) : Canon (bodyD s) := by
  refine ⟨fun e => h1 (.inl e), fun c hc => Classical.byContradiction fun hn => h2 (.inl ⟨c, hc, hn⟩), fun e => ?_⟩
  have hs : s = [48] := Classical.byContradiction fun hn => h1 (.inr ⟨e, hn⟩)
  rw [hs]; rfl
theorem num_doc {s : List UInt8} (h1 : ¬ docBad1 s) (h2 : ¬ docBad2 s) (h3 : ¬ docBad3 s) : numL s = some (docV s) := by
  have hc := body_canon h1 h2
  have hv : valD 0 (bodyD s) ≤ 9223372036854775808 := Nat.le_of_not_lt fun h => h3 (.inl h)
  have hp : Lib.parseMag (bodyD s) = .ok (valD 0 (bodyD s)) := by rw [Lib.parseMag, if_neg hc.ne]; exact parse_val _ _ hc.dig (by omega)
  have hd := canon_dec _ _ rfl hc
  cases s with
  | nil => exact absurd (.inl rfl) h1
  | cons c r =>
    by_cases hm : c = 45
    · subst hm
      have hb : bodyD (45 :: r) = r := rfl
      have hV : docV (45 :: r) = -(valD 0 r : Int) := by rw [docV, if_pos (show (45 :: r : List UInt8).head? = some 45 from rfl), hb]
      rw [hb] at hv hp hd hc
      have h48 : valD 0 r ≠ 0 := fun e => by
        rw [e] at hd
        have : r = [48] := by rw [← hd, Lib.decDigits, dif_pos (by omega)]; rfl
        exact h1 (.inr ⟨by rw [hb, this]; rfl, by simp⟩)
      have ha : Lib.atoiAll (45 :: r) = .ok (-(valD 0 r : Int)) := by
        unfold Lib.atoiAll
        have e45 : (45 : UInt8).toNat = 45 := rfl
        simp only [e45]
        rw [if_pos (.inr trivial), hp]
        simp only
        rw [if_neg (by simp), if_neg (by simp; omega)]
        simp
      rw [numL, ha, hV]
      have hi : Lib.itoa (-(valD 0 r : Int)) = 45 :: r := by
        rw [Lib.itoa, if_pos (by omega), show (-(valD 0 r : Int)).natAbs = valD 0 r by omega, hd]
      simp only [hi, if_true]
    · have hne : ¬ (c :: r).head? = some 45 := by simpa using hm
      have hb : bodyD (c :: r) = c :: r := if_neg hne
      have hV : docV (c :: r) = (valD 0 (c :: r) : Int) := by rw [docV, if_neg hne, hb]
      rw [hb] at hv hp hd hc
      have hlt : valD 0 (c :: r) < 9223372036854775808 := by
        rcases Nat.lt_or_ge (valD 0 (c :: r)) 9223372036854775808 with h | h
        · exact h
        · exact absurd (.inr ⟨by rw [hb]; omega, hb⟩) h3
      have hcd : Dig c := hc.dig c (by simp)
      have ha : Lib.atoiAll (c :: r) = .ok (valD 0 (c :: r) : Int) := by
        unfold Lib.atoiAll
        unfold Dig at hcd
        simp only
        rw [if_neg (by omega), hp]
        simp only
        rw [if_neg (by omega), if_neg (by omega), if_neg (by omega)]
      rw [numL, ha, hV]
      have hi : Lib.itoa (valD 0 (c :: r) : Int) = c :: r := by
        rw [Lib.itoa, if_neg (by omega), show ((valD 0 (c :: r) : Int)).toNat = valD 0 (c :: r) by omega, hd]
      simp only [hi, if_true]
theorem doc_num {s : List UInt8} {n : Int} (h : numL s = some n) : ¬ docBad1 s ∧ ¬ docBad2 s ∧ ¬ docBad3 s := by
  have ha : Lib.atoiAll s = .ok n ∧ Lib.itoa n = s := by
    unfold numL at h
    split at h
    · rename_i m hm
      split at h
      · rename_i hi
        cases h
        exact ⟨hm, hi⟩
      · cases h
    · cases h
  obtain ⟨ha, hi⟩ := ha
  obtain ⟨b1, b2⟩ := Lib.atoiAll_bounds ha
  by_cases hn : n < 0
  · obtain ⟨hc, hv, h0⟩ := dec_canon n.natAbs
    have hs : s = 45 :: Lib.decDigits n.natAbs := by rw [← hi, Lib.itoa, if_pos hn]
    have hb : bodyD s = Lib.decDigits n.natAbs := by rw [hs]; rfl
    have h48 : (Lib.decDigits n.natAbs).head? ≠ some 48 := fun e => by have := h0 e; omega
    refine ⟨?_, ?_, ?_⟩
    · rintro (e | ⟨e, _⟩)
      · rw [hb] at e; exact hc.ne e
      · rw [hb] at e; exact h48 e
    · rintro (⟨c, e1, e2⟩ | e)
      · rw [hb] at e1; exact e2 (hc.dig c e1)
      · rw [hb] at e
        have := canon_len hc (by rw [hv]; omega)
        omega
    · rintro (e | ⟨_, e⟩)
      · rw [hb, hv] at e; omega
      · rw [hb, hs] at e
        have := congrArg List.length e
        simp at this
  · obtain ⟨hc, hv, h0⟩ := dec_canon n.toNat
    have hs : s = Lib.decDigits n.toNat := by rw [← hi, Lib.itoa, if_neg hn]
    have hne : ¬ s.head? = some 45 := fun e => by
      rw [hs] at e
      have hm : (45 : UInt8) ∈ Lib.decDigits n.toNat := List.mem_of_mem_head? (by rw [e]; rfl)
      have := hc.dig _ hm
      unfold Dig at this
      have : (45 : UInt8).toNat = 45 := rfl
      omega
    have hb : bodyD s = s := if_neg hne
    refine ⟨?_, ?_, ?_⟩
    · rintro (e | ⟨e, e2⟩)
      · rw [hb, hs] at e; exact hc.ne e
      · rw [hb, hs] at e
        rw [hs] at e2
        exact e2 (hc.head e)
    · rintro (⟨c, e1, e2⟩ | e)
      · rw [hb, hs] at e1; exact e2 (hc.dig c e1)
      · rw [hb, hs] at e
        have := canon_len hc (by rw [hv]; omega)
        omega
    · rintro (e | ⟨e, _⟩)
      · rw [hb, hs, hv] at e; omega
      · rw [hb, hs, hv] at e; omega
end Go.Cf
namespace Go.Cf
open Go.RowKit
section
variable {P : Program} {w0 : World} {T : List Reg} {ρ : Env} {dst : Option Tmp} {ty : TypeId} {pos : String} {af : Array Edge} {gd : Option (Nat × Bool)} {x y : Operand} {t yt src d e : TypeId} {a b : Int}
theorem wrapU_in {x : Int} (h0 : 0 ≤ x) (h1 : x < 18446744073709551616) : IntKind.u64.wrap x = x := by
  rw [IntKind.wrap_u64]; omega
theorem y_mulU (hx : ev ρ x = .int .u64 a) (hy : ev ρ y = .int .u64 b) (h0 : 0 ≤ a * b) (h1 : a * b < 18446744073709551616) : Yield P w0 T ρ ⟨dst, .binOp .mul t x y yt, ty, pos, af, gd⟩ (.int .u64 (a * b)) := fun _ _ => by
  have h := wrapU_in h0 h1
  simp [execOp, go_sem, hx, hy, Op.intArith, h]
theorem y_addU (hx : ev ρ x = .int .u64 a) (hy : ev ρ y = .int .u64 b) (h0 : 0 ≤ a + b) (h1 : a + b < 18446744073709551616) : Yield P w0 T ρ ⟨dst, .binOp .add t x y yt, ty, pos, af, gd⟩ (.int .u64 (a + b)) := fun _ _ => by
  have h := wrapU_in h0 h1
  simp [execOp, go_sem, hx, hy, Op.intArith, h]
theorem y_byteU (hs : (P.underlying src).isSome = true) (hd : P.underlying d = some (.int .u64)) (hx : ev ρ x = .int .u8 a) (h0 : 0 ≤ a) (h1 : a < 256) : Yield P w0 T ρ ⟨dst, .convert src d x, ty, pos, af, gd⟩ (.int .u64 a) := fun w _ => by
  have hk : P.intKind d = .u64 := by simp [Program.intKind, hd]
  have h := run_convert_int (P := P) w src d .u8 a hs (by rw [hk]; exact hd)
  rw [hk, wrapU_in h0 (by omega)] at h
  simp [execOp, hx, h]
theorem y_uInt (hs : (P.underlying src).isSome = true) (hd : P.underlying d = some (.int .i64)) (hx : ev ρ x = .int .u64 a) (h0 : 0 ≤ a) (h1 : a < 256) : Yield P w0 T ρ ⟨dst, .convert src d x, ty, pos, af, gd⟩ (.int .i64 a) := fun w _ => by
  have hk : P.intKind d = .i64 := by simp [Program.intKind, hd]
  have h := run_convert_int (P := P) w src d .u64 a hs (by rw [hk]; exact hd)
  rw [hk, wrap_in (show In64 a by unfold In64; omega)] at h
  simp [execOp, hx, h]
end
theorem numV_L (w : ByteArray) : numV w = numL w.data.toList := rfl
def decN (s : ByteArray) : Int := match numV s with
  | none => 0
  | some n => if n < 0 ∨ 8 < n then 99 else n
theorem baL_self (s : ByteArray) : baL s.data.toList = s := rfl
theorem ext_tail (s : ByteArray) : s.extract 1 s.size = baL s.data.toList.tail := by
  apply ByteArray.ext
  apply Array.toList_inj.1
  rw [ByteArray.data_extract, baL_data, Array.toList_extract, List.extract_eq_take_drop, List.drop_one, List.take_of_length_le]
  rw [List.length_tail, Array.length_toList]
  exact Nat.le_refl _
theorem head_byte {s : ByteArray} {c : UInt8} : s.data.toList.head? = some c ↔ (0 < s.size ∧ byteAt s 0 = c.toNat) := by
  have h1 : s.data.toList.length = s.size := by rw [Array.length_toList]; rfl
  unfold byteAt
  cases hl : s.data.toList with
  | nil => rw [hl] at h1; simp at h1 ⊢; omega
  | cons x r =>
    rw [hl] at h1
    simp at h1 ⊢
    constructor
    · intro h; subst h; exact ⟨by omega, rfl⟩
    · intro h; exact UInt8.toNat_inj.1 h.2
theorem byte_baL {l : List UInt8} {i : Nat} (h : i < l.length) : byteAt (baL l) i = (l[i]).toNat := by
  rw [byteAt, baL_data, List.getElem?_eq_getElem h]; rfl
theorem valD_lt : ∀ (l : List UInt8) (acc : Nat), (∀ c ∈ l, Dig c) → valD acc l < (acc + 1) * 10 ^ l.length
  | [], acc, _ => by rw [valD_nil]; simp
  | c :: r, acc, h => by
    have h1 := valD_lt r (10 * acc + (c.toNat - 48)) (fun x hx => h x (by simp [hx]))
    have h2 := h c (by simp)
    unfold Dig at h2
    rw [valD_cons, List.length_cons, Nat.pow_succ]
    refine Nat.lt_of_lt_of_le h1 ?_
    rw [Nat.mul_comm (10 ^ r.length) 10, ← Nat.mul_assoc]
    exact Nat.mul_le_mul_right _ (by omega)
theorem valD_step {D : List UInt8} {k : Nat} (h : k < D.length) : valD 0 (D.take (k + 1)) = 10 * valD 0 (D.take k) + ((D[k]).toNat - 48) := by
  rw [List.take_succ_eq_append_getElem h, valD_app, valD_cons, valD_nil]
theorem valD_small {D : List UInt8} {k : Nat} (hk : k ≤ 18) (hd : ∀ c ∈ D.take k, Dig c) : valD 0 (D.take k) < 1000000000000000000 := by
  have h1 := valD_lt (D.take k) 0 hd
  have h2 : (D.take k).length ≤ 18 := by rw [List.length_take]; omega
  have h3 : (10 : Nat) ^ (D.take k).length ≤ 10 ^ 18 := Nat.pow_le_pow_right (by omega) h2
  have h4 : (10 : Nat) ^ 18 = 1000000000000000000 := by decide
  omega
section
variable {s : ByteArray}
theorem dec_bad (h : docBad1 s.data.toList ∨ docBad2 s.data.toList ∨ docBad3 s.data.toList) : numV s = none := by
  cases hn : numV s with
  | none => rfl
  | some n =>
    rw [numV_L] at hn
    obtain ⟨h1, h2, h3⟩ := doc_num hn
    rcases h with h | h | h
    · exact absurd h h1
    · exact absurd h h2
    · exact absurd h h3
theorem body_neg (h : s.data.toList.head? = some 45) : bodyD s.data.toList ≠ s.data.toList := fun e => by
  rw [bodyD, if_pos h] at e
  have := congrArg List.length e
  cases hl : s.data.toList with
  | nil => rw [hl] at h; cases h
  | cons x r => rw [hl] at this; simp at this
theorem dec_val (h1 : ¬ docBad1 s.data.toList) (h2 : ¬ docBad2 s.data.toList) (h3 : ¬ docBad3 s.data.toList) : (numV s).isSome = true ∧ (baL (bodyD s.data.toList) ≠ s ∨ 8 < valD 0 (bodyD s.data.toList) → decN s = 99) ∧ (baL (bodyD s.data.toList) = s → ¬ 8 < valD 0 (bodyD s.data.toList) → decN s = valD 0 (bodyD s.data.toList)) := by
  have hn : numV s = some (docV s.data.toList) := by rw [numV_L]; exact num_doc h1 h2 h3
  have hc := body_canon h1 h2
  refine ⟨by rw [hn]; rfl, fun h => ?_, fun h h8 => ?_⟩
  · rw [decN, hn]
    refine if_pos ?_
    by_cases hm : s.data.toList.head? = some 45
    · left
      rw [docV, if_pos hm]
      have hv : valD 0 (bodyD s.data.toList) ≠ 0 := fun e => by
        have hd := canon_dec _ _ rfl hc
        rw [e, Lib.decDigits, dif_pos (by omega)] at hd
        exact h1 (.inr ⟨by rw [← hd]; rfl, fun e2 => by rw [e2] at hm; exact absurd hm (by decide)⟩)
      omega
    · have hb : bodyD s.data.toList = s.data.toList := if_neg hm
      rcases h with h | h
      · exact absurd (by rw [hb]; exact baL_self s) h
      · right; rw [docV, if_neg hm]; omega
  · have hm : ¬ s.data.toList.head? = some 45 := fun hm => body_neg hm (baL_inj (h.trans (baL_self s).symm))
    rw [decN, hn]
    have e : docV s.data.toList = (valD 0 (bodyD s.data.toList) : Int) := by rw [docV, if_neg hm]
    rw [e]
    exact if_neg (by omega)
end
end Go.Cf
namespace Go.Cf
theorem end_gt {s : ByteArray} {i : Nat} (h : i < s.size) (hw : woB s i = true) : i < endW s i := by
  rw [endW, run_step h hw]
  exact end_ge s (i + 1)
end Go.Cf
namespace Go.Proofs.YtllblbkbglifjaaDoor
open Go.RowKit Go.Cf
set_option maxRecDepth 10000
theorem fa65_1 (a : Addr) (w : World) : (Instr.fieldAt 65 (.pointer (some a)) 1).run Tryd.prog w = .ok (.pointer (some (a.add 1))) w := by kernel_rfl
theorem fa65_0 (a : Addr) (w : World) : (Instr.fieldAt 65 (.pointer (some a)) 0).run Tryd.prog w = .ok (.pointer (some (a.add 0))) w := by kernel_rfl
set_option maxHeartbeats 16000000 in
theorem refPeek_any (w0 w : World) (sg : Nat) (s : ByteArray) (fr : Reg) (hs : s.size ≤ 200) (a0 : Nat) (ha0 : a0 ≤ s.size) (hM0 : Mem w0 [box sg (.cells #[.string s, .int .i64 ((a0 : Nat))] 65), fr] w) :
    Calls Tryd.prog 33 #[.pointer (some ⟨sg, 0, none⟩)] w fun e w' => e = .returned (.tuple #[.string (s.extract (skipW s a0) (nextW s (skipW s a0))), .int .i64 (nextW s (skipW s a0) : Nat)]) ∧ Mem w0 [box sg (.cells #[.string s, .int .i64 ((skipW s a0 : Nat))] 65), fr] w' := by
  refine gcallsT Tryd.func33 rfl Tryd.ntmps33 (Nat.le_of_ble_eq_true rfl) hM0 ?_
  refine gfrom [(0, .pointer (some ⟨sg, 0, none⟩))] ⟨rfl, trivial⟩ fun σ => ?_
  refine gseq fun N1 hN1 => ?_
  refine greg ?_
  refine gop (y_assign (v := .string _) rfl) rfl rfl rfl ?_
  refine gop (y_assign (v := .int _ _) rfl) rfl rfl rfl ?_
  refine gops_nil ?_
  refine hN1 _ _ ?_
  refine gfrom [(0, .pointer (some ⟨sg, 0, none⟩))] ⟨rfl, trivial⟩ fun σ => ?_
  refine gseq fun N2 hN2 => ?_
  refine gblock ?_
  refine gfrom2 [] [(0, .pointer (some ⟨sg, 0, none⟩))] trivial ⟨rfl, trivial⟩ fun σ => ?_
  refine gloop2 (G := Nat) (fun j => j ≤ s.size ∧ skipW s j = skipW s a0) (fun j => s.size - j) (fun j => []) (fun j => [(0, box sg (.cells #[.string s, .int .i64 ((j : Nat))] 65))]) (a0) ?h0 trivial ⟨rfl, trivial⟩ rfl ?round
  case h0 => exact ⟨ha0, rfl⟩
  case round =>
    intro j hφ σ
    obtain ⟨hj, hjs⟩ := hφ
    refine gT [box sg _, fr] rfl ?_
    refine gseq fun N3 hN3 => ?_
    refine gseq fun N4 hN4 => ?_
    refine greg_q (by kernel_rfl) (by kernel_rfl) ?_
    refine gq (y_move (v := .pointer (some ⟨sg, 0, none⟩)) rfl) rfl rfl rfl ?_
    refine gq (y_nilCheck rfl) rfl rfl rfl ?_
    refine gq (y_fieldAddr_box fa65_1 rfl) rfl rfl rfl ?_
    refine gq (y_load Tryd.isAgg3 rfl (cell_box 0 rfl rfl)) rfl rfl rfl ?_
    refine gq (y_move (v := .pointer (some ⟨sg, 0, none⟩)) rfl) rfl rfl rfl ?_
    refine gq (y_nilCheck rfl) rfl rfl rfl ?_
    refine gq (y_fieldAddr_box fa65_0 rfl) rfl rfl rfl ?_
    refine gq (y_load Tryd.isAgg9 rfl (cell_box 0 rfl rfl)) rfl rfl rfl ?_
    refine gq (y_lens Tryd.underlying9 rfl) rfl rfl rfl ?_
    refine gq (y_lss rfl rfl) rfl rfl rfl ?_
    refine gq (y_move (v := .bool _) rfl) rfl rfl rfl ?_
    refine gq_if (want := true) rfl rfl rfl rfl rfl rfl (fun hg15 => ?_) (fun hg15 => ?_)
    · 
      have hg15d := of_decide_eq_true hg15
      refine gq (y_bare (y_move (v := .pointer (some ⟨sg, 0, none⟩)) rfl)) rfl rfl rfl ?_
      refine gq_on rfl rfl rfl rfl hg15 ?_
      refine gq (y_bare (y_nilCheck rfl)) rfl rfl rfl ?_
      refine gq_on rfl rfl rfl rfl hg15 ?_
      refine gq (y_bare (y_fieldAddr_box fa65_0 rfl)) rfl rfl rfl ?_
      refine gq_on rfl rfl rfl rfl hg15 ?_
      refine gq (y_bare (y_load Tryd.isAgg9 rfl (cell_box 0 rfl rfl))) rfl rfl rfl ?_
      refine gq_on rfl rfl rfl rfl hg15 ?_
      refine gq (y_bare (y_move (v := .pointer (some ⟨sg, 0, none⟩)) rfl)) rfl rfl rfl ?_
      refine gq_on rfl rfl rfl rfl hg15 ?_
      refine gq (y_bare (y_nilCheck rfl)) rfl rfl rfl ?_
      refine gq_on rfl rfl rfl rfl hg15 ?_
      refine gq (y_bare (y_fieldAddr_box fa65_1 rfl)) rfl rfl rfl ?_
      refine gq_on rfl rfl rfl rfl hg15 ?_
      refine gq (y_bare (y_load Tryd.isAgg3 rfl (cell_box 0 rfl rfl))) rfl rfl rfl ?_
      refine gq_on rfl rfl rfl rfl hg15 ?_
      refine gq (y_bare (y_stridx (m := j) Tryd.underlying9 rfl rfl (by omega) (by omega) (by omega))) rfl rfl rfl ?_
      refine gq_on rfl rfl rfl rfl hg15 ?_
      refine gq (y_bare (y_eql rfl rfl)) rfl rfl rfl ?_
      refine gq (y_pick_t (v := .bool _) rfl hg15 rfl) rfl rfl rfl ?_
      refine gqs_nil ?_
      refine hN4 _ _ ?_
      refine gfrom [(0, .pointer (some ⟨sg, 0, none⟩)), (26, .bool _)] ⟨rfl, rfl, trivial⟩ fun σ => ?_
      refine gcond (b := _) rfl (fun hc26 => ?_) (fun hc26 => ?_)
      · 
        replace hc26 := of_decide_eq_true hc26
        have hj1 : j < s.size := by omega
        have hb : spB s j = true := decide_eq_true (by omega)
        refine gskip ?_
        refine hN3 _ _ ?_
        refine gfrom [(0, .pointer (some ⟨sg, 0, none⟩))] ⟨rfl, trivial⟩ fun σ => ?_
        refine gblock ?_
        refine greg ?_
        refine gop (y_move (v := .pointer (some ⟨sg, 0, none⟩)) rfl) rfl rfl rfl ?_
        refine gop (y_nilCheck rfl) rfl rfl rfl ?_
        refine gop (y_fieldAddr_box fa65_1 rfl) rfl rfl rfl ?_
        refine gop (y_load Tryd.isAgg3 rfl (cell_box 0 rfl rfl)) rfl rfl rfl ?_
        refine gop (y_add rfl rfl ⟨by omega, by omega⟩) rfl rfl rfl ?_
        refine gop (y_nilCheck rfl) rfl rfl rfl ?_
        refine gop (y_fieldAddr_box fa65_1 rfl) rfl rfl rfl ?_
        refine gop_store 0 (v := .int _ _) (cs' := #[_, _]) rfl rfl Tryd.sizeOf3 rfl rfl rfl rfl (Nat.le_of_ble_eq_true rfl) rfl rfl ?_
        refine gops_nil ?_
        refine gnext2 (j + 1) (by omega) (⟨by show j + 1 ≤ _; omega, by rw [← hjs]; exact (run_step hj1 hb).symm⟩) trivial ⟨rfl, trivial⟩ ⟨_, rfl⟩
      · 
        replace hc26 := of_decide_eq_false hc26
        have hat : skipW s a0 = j := by rw [← hjs]; exact run_stop (fun h => decide_eq_false (by omega))
        have hsp : j < s.size → byteAt s j ≠ 32 := fun h => by omega
        refine gexit ?_
        refine hN2 _ _ ?_
        refine gfrom [(0, .pointer (some ⟨sg, 0, none⟩))] ⟨rfl, trivial⟩ fun σ => ?_
        refine gseq fun N5 hN5 => ?_
        refine greg ?_
        refine gop (y_move (v := .pointer (some ⟨sg, 0, none⟩)) rfl) rfl rfl rfl ?_
        refine gop (y_nilCheck rfl) rfl rfl rfl ?_
        refine gop (y_fieldAddr_box fa65_1 rfl) rfl rfl rfl ?_
        refine gop (y_load Tryd.isAgg3 rfl (cell_box 0 rfl rfl)) rfl rfl rfl ?_
        refine gop (y_assign (v := .int _ _) rfl) rfl rfl rfl ?_
        refine gops_nil ?_
        refine hN5 _ _ ?_
        refine gfrom [(0, .pointer (some ⟨sg, 0, none⟩)), (4, .int _ _)] ⟨rfl, rfl, trivial⟩ fun σ => ?_
        refine gseq fun N6 hN6 => ?_
        refine gseq fun N7 hN7 => ?_
        refine greg ?_
        refine gop (y_move (v := .int _ _) rfl) rfl rfl rfl ?_
        refine gop (y_move (v := .pointer (some ⟨sg, 0, none⟩)) rfl) rfl rfl rfl ?_
        refine gop (y_nilCheck rfl) rfl rfl rfl ?_
        refine gop (y_fieldAddr_box fa65_0 rfl) rfl rfl rfl ?_
        refine gop (y_load Tryd.isAgg9 rfl (cell_box 0 rfl rfl)) rfl rfl rfl ?_
        refine gop (y_lens Tryd.underlying9 rfl) rfl rfl rfl ?_
        refine gop (y_lss rfl rfl) rfl rfl rfl ?_
        refine gop (y_move (v := .bool _) rfl) rfl rfl rfl ?_
        refine gop_if (want := true) rfl rfl rfl rfl rfl rfl (fun hg45 => ?_) (fun hg45 => ?_)
        · 
          have hg45d := of_decide_eq_true hg45
          refine gop (y_bare (y_move (v := .pointer (some ⟨sg, 0, none⟩)) rfl)) rfl rfl rfl ?_
          refine gop_on rfl rfl rfl rfl hg45 ?_
          refine gop (y_bare (y_nilCheck rfl)) rfl rfl rfl ?_
          refine gop_on rfl rfl rfl rfl hg45 ?_
          refine gop (y_bare (y_fieldAddr_box fa65_0 rfl)) rfl rfl rfl ?_
          refine gop_on rfl rfl rfl rfl hg45 ?_
          refine gop (y_bare (y_load Tryd.isAgg9 rfl (cell_box 0 rfl rfl))) rfl rfl rfl ?_
          refine gop_on rfl rfl rfl rfl hg45 ?_
          refine gop (y_bare (y_move (v := .int _ _) rfl)) rfl rfl rfl ?_
          refine gop_on rfl rfl rfl rfl hg45 ?_
          refine gop (y_bare (y_stridx (m := j) Tryd.underlying9 rfl rfl (by omega) (by omega) (by omega))) rfl rfl rfl ?_
          refine gop_on rfl rfl rfl rfl hg45 ?_
          refine gop (y_bare (y_eql rfl rfl)) rfl rfl rfl ?_
          refine gop_on rfl rfl rfl rfl hg45 ?_
          refine gop (y_bare (y_move (v := .bool _) rfl)) rfl rfl rfl ?_
          refine gop_if (want := false) rfl rfl rfl rfl rfl rfl (fun hg53 => ?_) (fun hg53 => ?_)
          · 
            have hg53d := of_decide_eq_false hg53
            refine gop (y_bare (y_move (v := .pointer (some ⟨sg, 0, none⟩)) rfl)) rfl rfl rfl ?_
            refine gop_on rfl rfl rfl rfl hg53 ?_
            refine gop (y_bare (y_nilCheck rfl)) rfl rfl rfl ?_
            refine gop_on rfl rfl rfl rfl hg53 ?_
            refine gop (y_bare (y_fieldAddr_box fa65_0 rfl)) rfl rfl rfl ?_
            refine gop_on rfl rfl rfl rfl hg53 ?_
            refine gop (y_bare (y_load Tryd.isAgg9 rfl (cell_box 0 rfl rfl))) rfl rfl rfl ?_
            refine gop_on rfl rfl rfl rfl hg53 ?_
            refine gop (y_bare (y_move (v := .int _ _) rfl)) rfl rfl rfl ?_
            refine gop_on rfl rfl rfl rfl hg53 ?_
            refine gop (y_bare (y_stridx (m := j) Tryd.underlying9 rfl rfl (by omega) (by omega) (by omega))) rfl rfl rfl ?_
            refine gop_on rfl rfl rfl rfl hg53 ?_
            refine gop (y_bare (y_eql rfl rfl)) rfl rfl rfl ?_
            refine gop_on rfl rfl rfl rfl hg45 ?_
            refine gop (y_bare (y_pick_f (v := .bool _) rfl hg53 rfl)) rfl rfl rfl ?_
            refine gop (y_pick_t (v := .bool _) rfl hg45 rfl) rfl rfl rfl ?_
            refine gops_nil ?_
            refine hN7 _ _ ?_
            refine gfrom [(0, .pointer (some ⟨sg, 0, none⟩)), (4, .int _ _), (62, .bool _)] ⟨rfl, rfl, rfl, trivial⟩ fun σ => ?_
            refine gcond (b := _) rfl (fun hc62 => ?_) (fun hc62 => ?_)
            · 
              replace hc62 := of_decide_eq_true hc62
              have hN : nextW s j = j + 1 := by rw [nextW, show endW s j = j from run_stop (fun _ => decide_eq_false (by omega)), if_pos (by omega)]
              refine gseq fun N8 hN8 => ?_
              refine greg ?_
              refine gop (y_move (v := .pointer (some ⟨sg, 0, none⟩)) rfl) rfl rfl rfl ?_
              refine gop (y_nilCheck rfl) rfl rfl rfl ?_
              refine gop (y_fieldAddr_box fa65_0 rfl) rfl rfl rfl ?_
              refine gop (y_load Tryd.isAgg9 rfl (cell_box 0 rfl rfl)) rfl rfl rfl ?_
              refine gop (y_move (v := .int _ _) rfl) rfl rfl rfl ?_
              refine gop (y_move (v := .int _ _) rfl) rfl rfl rfl ?_
              refine gop (y_add rfl rfl ⟨by omega, by omega⟩) rfl rfl rfl ?_
              refine gop (y_strslice Tryd.underlying9 rfl rfl rfl (by omega) (by omega) (by omega)) rfl rfl rfl ?_
              refine gop (y_move (v := .int _ _) rfl) rfl rfl rfl ?_
              refine gop (y_add rfl rfl ⟨by omega, by omega⟩) rfl rfl rfl ?_
              refine gop (y_assign (v := .string _) rfl) rfl rfl rfl ?_
              refine gop (y_assign (v := .int _ _) rfl) rfl rfl rfl ?_
              refine gops_nil ?_
              refine hN8 _ _ ?_
              refine gfrom [(2, .string _), (3, .int _ _)] ⟨rfl, rfl, trivial⟩ fun σ => ?_
              refine gret fun w1 hM => ?_
              refine ⟨_, res2 rfl (rt (v := .string _) rfl) (rt (v := .int _ _) rfl), ?_⟩
              rw [hat, hN]
              exact ⟨by simp, weak_take (T' := [_, fr]) rfl _ hM⟩
            · 
              replace hc62 := of_decide_eq_false hc62
              have hnp : j < s.size → byteAt s j ≠ 40 ∧ byteAt s j ≠ 41 := fun h => by omega
              refine gskip ?_
              refine hN6 _ _ ?_
              refine gfrom [(0, .pointer (some ⟨sg, 0, none⟩)), (4, .int _ _)] ⟨rfl, rfl, trivial⟩ fun σ => ?_
              refine gseq fun N9 hN9 => ?_
              refine gblock ?_
              refine gfrom2 [(4, .int _ _)] [(0, .pointer (some ⟨sg, 0, none⟩))] ⟨rfl, trivial⟩ ⟨rfl, trivial⟩ fun σ => ?_
              refine gloop2 (G := Nat) (fun k => k ≤ s.size ∧ endW s k = endW s j ∧ j ≤ k) (fun k => s.size - k) (fun k => [(4, .int .i64 (k : Int))]) (fun k => []) (j) ?h0 ⟨rfl, trivial⟩ ⟨rfl, trivial⟩ rfl ?round
              case h0 => exact ⟨hj, rfl, Nat.le_refl _⟩
              case round =>
                intro k hφ σ
                obtain ⟨hk, hks, hjk⟩ := hφ
                refine gseq fun N10 hN10 => ?_
                refine gseq fun N11 hN11 => ?_
                refine greg ?_
                refine gop (y_move (v := .int _ _) rfl) rfl rfl rfl ?_
                refine gop (y_move (v := .pointer (some ⟨sg, 0, none⟩)) rfl) rfl rfl rfl ?_
                refine gop (y_nilCheck rfl) rfl rfl rfl ?_
                refine gop (y_fieldAddr_box fa65_0 rfl) rfl rfl rfl ?_
                refine gop (y_load Tryd.isAgg9 rfl (cell_box 0 rfl rfl)) rfl rfl rfl ?_
                refine gop (y_lens Tryd.underlying9 rfl) rfl rfl rfl ?_
                refine gop (y_lss rfl rfl) rfl rfl rfl ?_
                refine gop (y_move (v := .bool _) rfl) rfl rfl rfl ?_
                refine gop_if (want := true) rfl rfl rfl rfl rfl rfl (fun hg80 => ?_) (fun hg80 => ?_)
                · 
                  have hg80d := of_decide_eq_true hg80
                  refine gop (y_bare (y_move (v := .pointer (some ⟨sg, 0, none⟩)) rfl)) rfl rfl rfl ?_
                  refine gop_on rfl rfl rfl rfl hg80 ?_
                  refine gop (y_bare (y_nilCheck rfl)) rfl rfl rfl ?_
                  refine gop_on rfl rfl rfl rfl hg80 ?_
                  refine gop (y_bare (y_fieldAddr_box fa65_0 rfl)) rfl rfl rfl ?_
                  refine gop_on rfl rfl rfl rfl hg80 ?_
                  refine gop (y_bare (y_load Tryd.isAgg9 rfl (cell_box 0 rfl rfl))) rfl rfl rfl ?_
                  refine gop_on rfl rfl rfl rfl hg80 ?_
                  refine gop (y_bare (y_move (v := .int _ _) rfl)) rfl rfl rfl ?_
                  refine gop_on rfl rfl rfl rfl hg80 ?_
                  refine gop (y_bare (y_stridx (m := k) Tryd.underlying9 rfl rfl (by omega) (by omega) (by omega))) rfl rfl rfl ?_
                  refine gop_on rfl rfl rfl rfl hg80 ?_
                  refine gop (y_bare (y_neq rfl rfl)) rfl rfl rfl ?_
                  refine gop (y_pick_t (v := .bool _) rfl hg80 rfl) rfl rfl rfl ?_
                  refine gop (y_move (v := .bool _) rfl) rfl rfl rfl ?_
                  refine gop_if (want := true) rfl rfl rfl rfl rfl rfl (fun hg89 => ?_) (fun hg89 => ?_)
                  · 
                    have hg89d := of_decide_eq_true hg89
                    refine gop (y_bare (y_move (v := .pointer (some ⟨sg, 0, none⟩)) rfl)) rfl rfl rfl ?_
                    refine gop_on rfl rfl rfl rfl hg89 ?_
                    refine gop (y_bare (y_nilCheck rfl)) rfl rfl rfl ?_
                    refine gop_on rfl rfl rfl rfl hg89 ?_
                    refine gop (y_bare (y_fieldAddr_box fa65_0 rfl)) rfl rfl rfl ?_
                    refine gop_on rfl rfl rfl rfl hg89 ?_
                    refine gop (y_bare (y_load Tryd.isAgg9 rfl (cell_box 0 rfl rfl))) rfl rfl rfl ?_
                    refine gop_on rfl rfl rfl rfl hg89 ?_
                    refine gop (y_bare (y_move (v := .int _ _) rfl)) rfl rfl rfl ?_
                    refine gop_on rfl rfl rfl rfl hg89 ?_
                    refine gop (y_bare (y_stridx (m := k) Tryd.underlying9 rfl rfl (by omega) (by omega) (by omega))) rfl rfl rfl ?_
                    refine gop_on rfl rfl rfl rfl hg89 ?_
                    refine gop (y_bare (y_neq rfl rfl)) rfl rfl rfl ?_
                    refine gop (y_pick_t (v := .bool _) rfl hg89 rfl) rfl rfl rfl ?_
                    refine gop (y_move (v := .bool _) rfl) rfl rfl rfl ?_
                    refine gop_if (want := true) rfl rfl rfl rfl rfl rfl (fun hg98 => ?_) (fun hg98 => ?_)
                    · 
                      have hg98d := of_decide_eq_true hg98
                      refine gop (y_bare (y_move (v := .pointer (some ⟨sg, 0, none⟩)) rfl)) rfl rfl rfl ?_
                      refine gop_on rfl rfl rfl rfl hg98 ?_
                      refine gop (y_bare (y_nilCheck rfl)) rfl rfl rfl ?_
                      refine gop_on rfl rfl rfl rfl hg98 ?_
                      refine gop (y_bare (y_fieldAddr_box fa65_0 rfl)) rfl rfl rfl ?_
                      refine gop_on rfl rfl rfl rfl hg98 ?_
                      refine gop (y_bare (y_load Tryd.isAgg9 rfl (cell_box 0 rfl rfl))) rfl rfl rfl ?_
                      refine gop_on rfl rfl rfl rfl hg98 ?_
                      refine gop (y_bare (y_move (v := .int _ _) rfl)) rfl rfl rfl ?_
                      refine gop_on rfl rfl rfl rfl hg98 ?_
                      refine gop (y_bare (y_stridx (m := k) Tryd.underlying9 rfl rfl (by omega) (by omega) (by omega))) rfl rfl rfl ?_
                      refine gop_on rfl rfl rfl rfl hg98 ?_
                      refine gop (y_bare (y_neq rfl rfl)) rfl rfl rfl ?_
                      refine gop (y_pick_t (v := .bool _) rfl hg98 rfl) rfl rfl rfl ?_
                      refine gops_nil ?_
                      refine hN11 _ _ ?_
                      refine gfrom [(0, .pointer (some ⟨sg, 0, none⟩)), (4, .int _ _), (106, .bool _)] ⟨rfl, rfl, rfl, trivial⟩ fun σ => ?_
                      refine gcond (b := _) rfl (fun hc106 => ?_) (fun hc106 => ?_)
                      · 
                        replace hc106 := of_decide_eq_true hc106
                        have hk1 : k < s.size := by omega
                        have hw : woB s k = true := decide_eq_true (by omega)
                        refine gskip ?_
                        refine hN10 _ _ ?_
                        refine gfrom [(0, .pointer (some ⟨sg, 0, none⟩)), (4, .int _ _)] ⟨rfl, rfl, trivial⟩ fun σ => ?_
                        refine gblock ?_
                        refine greg ?_
                        refine gop (y_move (v := .int _ _) rfl) rfl rfl rfl ?_
                        refine gop (y_add rfl rfl ⟨by omega, by omega⟩) rfl rfl rfl ?_
                        refine gop (y_assign (v := .int _ _) rfl) rfl rfl rfl ?_
                        refine gops_nil ?_
                        refine gnext2 (k + 1) (by omega) (⟨by show k + 1 ≤ _; omega, by rw [← hks]; exact (run_step hk1 hw).symm, by omega⟩) ⟨rfl, trivial⟩ ⟨rfl, trivial⟩ ⟨_, rfl⟩
                      · 
                        replace hc106 := Decidable.not_not.1 (of_decide_eq_false hc106)
                        have hend : endW s j = k := by rw [← hks]; exact run_stop (fun h => decide_eq_false (by omega))
                        have hN : nextW s j = k := by
                          rw [nextW, hend, if_neg]
                          rintro ⟨e1, e2⟩
                          have h9 := end_gt e2 (decide_eq_true ⟨hsp e2, (hnp e2).1, (hnp e2).2⟩)
                          omega
                        refine gexit ?_
                        refine hN9 _ _ ?_
                        refine gfrom [(0, .pointer (some ⟨sg, 0, none⟩)), (4, .int _ _)] ⟨rfl, rfl, trivial⟩ fun σ => ?_
                        refine gseq fun N12 hN12 => ?_
                        refine greg_q (by kernel_rfl) (by kernel_rfl) ?_
                        refine gq (y_move (v := .pointer (some ⟨sg, 0, none⟩)) rfl) rfl rfl rfl ?_
                        refine gq (y_nilCheck rfl) rfl rfl rfl ?_
                        refine gq (y_fieldAddr_box fa65_0 rfl) rfl rfl rfl ?_
                        refine gq (y_load Tryd.isAgg9 rfl (cell_box 0 rfl rfl)) rfl rfl rfl ?_
                        refine gq (y_move (v := .pointer (some ⟨sg, 0, none⟩)) rfl) rfl rfl rfl ?_
                        refine gq (y_nilCheck rfl) rfl rfl rfl ?_
                        refine gq (y_fieldAddr_box fa65_1 rfl) rfl rfl rfl ?_
                        refine gq (y_load Tryd.isAgg3 rfl (cell_box 0 rfl rfl)) rfl rfl rfl ?_
                        refine gq (y_move (v := .int _ _) rfl) rfl rfl rfl ?_
                        refine gq (y_strslice Tryd.underlying9 rfl rfl rfl (by omega) (by omega) (by omega)) rfl rfl rfl ?_
                        refine gq (y_move (v := .int _ _) rfl) rfl rfl rfl ?_
                        refine gq (y_assign (v := .string _) rfl) rfl rfl rfl ?_
                        refine gq (y_assign (v := .int _ _) rfl) rfl rfl rfl ?_
                        refine gqs_nil ?_
                        refine hN12 _ _ ?_
                        refine gfrom [(2, .string _), (3, .int _ _)] ⟨rfl, rfl, trivial⟩ fun σ => ?_
                        refine gret fun w1 hM => ?_
                        refine ⟨_, res2 rfl (rt (v := .string _) rfl) (rt (v := .int _ _) rfl), ?_⟩
                        rw [hat, hN]
                        exact ⟨by simp, weak_take (T' := [_, fr]) rfl _ hM⟩
                    · 
                      have hg98d := Decidable.not_not.1 (of_decide_eq_false hg98)
                      refine gop_off rfl rfl rfl rfl hg98 rfl rfl ?_
                      refine gop_off rfl rfl rfl rfl hg98 rfl rfl ?_
                      refine gop_off rfl rfl rfl rfl hg98 rfl rfl ?_
                      refine gop_off rfl rfl rfl rfl hg98 rfl rfl ?_
                      refine gop_off rfl rfl rfl rfl hg98 rfl rfl ?_
                      refine gop_off rfl rfl rfl rfl hg98 rfl rfl ?_
                      refine gop (y_pick_f (v := .bool _) rfl hg98 rfl) rfl rfl rfl ?_
                      refine gops_nil ?_
                      refine hN11 _ _ ?_
                      refine gfrom [(0, .pointer (some ⟨sg, 0, none⟩)), (4, .int _ _), (106, .bool _)] ⟨rfl, rfl, rfl, trivial⟩ fun σ => ?_
                      refine gcond (b := _) rfl (fun hc106 => ?_) (fun hc106 => ?_)
                      · 
                        cases hc106
                      · 
                        have hend : endW s j = k := by rw [← hks]; exact run_stop (fun h => decide_eq_false (by omega))
                        have hN : nextW s j = k := by
                          rw [nextW, hend, if_neg]
                          rintro ⟨e1, e2⟩
                          have h9 := end_gt e2 (decide_eq_true ⟨hsp e2, (hnp e2).1, (hnp e2).2⟩)
                          omega
                        refine gexit ?_
                        refine hN9 _ _ ?_
                        refine gfrom [(0, .pointer (some ⟨sg, 0, none⟩)), (4, .int _ _)] ⟨rfl, rfl, trivial⟩ fun σ => ?_
                        refine gseq fun N13 hN13 => ?_
                        refine greg_q (by kernel_rfl) (by kernel_rfl) ?_
                        refine gq (y_move (v := .pointer (some ⟨sg, 0, none⟩)) rfl) rfl rfl rfl ?_
                        refine gq (y_nilCheck rfl) rfl rfl rfl ?_
                        refine gq (y_fieldAddr_box fa65_0 rfl) rfl rfl rfl ?_
                        refine gq (y_load Tryd.isAgg9 rfl (cell_box 0 rfl rfl)) rfl rfl rfl ?_
                        refine gq (y_move (v := .pointer (some ⟨sg, 0, none⟩)) rfl) rfl rfl rfl ?_
                        refine gq (y_nilCheck rfl) rfl rfl rfl ?_
                        refine gq (y_fieldAddr_box fa65_1 rfl) rfl rfl rfl ?_
                        refine gq (y_load Tryd.isAgg3 rfl (cell_box 0 rfl rfl)) rfl rfl rfl ?_
                        refine gq (y_move (v := .int _ _) rfl) rfl rfl rfl ?_
                        refine gq (y_strslice Tryd.underlying9 rfl rfl rfl (by omega) (by omega) (by omega)) rfl rfl rfl ?_
                        refine gq (y_move (v := .int _ _) rfl) rfl rfl rfl ?_
                        refine gq (y_assign (v := .string _) rfl) rfl rfl rfl ?_
                        refine gq (y_assign (v := .int _ _) rfl) rfl rfl rfl ?_
                        refine gqs_nil ?_
                        refine hN13 _ _ ?_
                        refine gfrom [(2, .string _), (3, .int _ _)] ⟨rfl, rfl, trivial⟩ fun σ => ?_
                        refine gret fun w1 hM => ?_
                        refine ⟨_, res2 rfl (rt (v := .string _) rfl) (rt (v := .int _ _) rfl), ?_⟩
                        rw [hat, hN]
                        exact ⟨by simp, weak_take (T' := [_, fr]) rfl _ hM⟩
                  · 
                    have hg89d := Decidable.not_not.1 (of_decide_eq_false hg89)
                    refine gop_off rfl rfl rfl rfl hg89 rfl rfl ?_
                    refine gop_off rfl rfl rfl rfl hg89 rfl rfl ?_
                    refine gop_off rfl rfl rfl rfl hg89 rfl rfl ?_
                    refine gop_off rfl rfl rfl rfl hg89 rfl rfl ?_
                    refine gop_off rfl rfl rfl rfl hg89 rfl rfl ?_
                    refine gop_off rfl rfl rfl rfl hg89 rfl rfl ?_
                    refine gop (y_pick_f (v := .bool _) rfl hg89 rfl) rfl rfl rfl ?_
                    refine gop (y_move (v := .bool _) rfl) rfl rfl rfl ?_
                    refine gop_off rfl rfl rfl rfl rfl rfl rfl ?_
                    refine gop_off rfl rfl rfl rfl rfl rfl rfl ?_
                    refine gop_off rfl rfl rfl rfl rfl rfl rfl ?_
                    refine gop_off rfl rfl rfl rfl rfl rfl rfl ?_
                    refine gop_off rfl rfl rfl rfl rfl rfl rfl ?_
                    refine gop_off rfl rfl rfl rfl rfl rfl rfl ?_
                    refine gop_off rfl rfl rfl rfl rfl rfl rfl ?_
                    refine gop (y_pick_f (v := .bool _) rfl rfl rfl) rfl rfl rfl ?_
                    refine gops_nil ?_
                    refine hN11 _ _ ?_
                    refine gfrom [(0, .pointer (some ⟨sg, 0, none⟩)), (4, .int _ _), (106, .bool _)] ⟨rfl, rfl, rfl, trivial⟩ fun σ => ?_
                    refine gcond (b := _) rfl (fun hc106 => ?_) (fun hc106 => ?_)
                    · 
                      cases hc106
                    · 
                      have hend : endW s j = k := by rw [← hks]; exact run_stop (fun h => decide_eq_false (by omega))
                      have hN : nextW s j = k := by
                        rw [nextW, hend, if_neg]
                        rintro ⟨e1, e2⟩
                        have h9 := end_gt e2 (decide_eq_true ⟨hsp e2, (hnp e2).1, (hnp e2).2⟩)
                        omega
                      refine gexit ?_
                      refine hN9 _ _ ?_
                      refine gfrom [(0, .pointer (some ⟨sg, 0, none⟩)), (4, .int _ _)] ⟨rfl, rfl, trivial⟩ fun σ => ?_
                      refine gseq fun N14 hN14 => ?_
                      refine greg_q (by kernel_rfl) (by kernel_rfl) ?_
                      refine gq (y_move (v := .pointer (some ⟨sg, 0, none⟩)) rfl) rfl rfl rfl ?_
                      refine gq (y_nilCheck rfl) rfl rfl rfl ?_
                      refine gq (y_fieldAddr_box fa65_0 rfl) rfl rfl rfl ?_
                      refine gq (y_load Tryd.isAgg9 rfl (cell_box 0 rfl rfl)) rfl rfl rfl ?_
                      refine gq (y_move (v := .pointer (some ⟨sg, 0, none⟩)) rfl) rfl rfl rfl ?_
                      refine gq (y_nilCheck rfl) rfl rfl rfl ?_
                      refine gq (y_fieldAddr_box fa65_1 rfl) rfl rfl rfl ?_
                      refine gq (y_load Tryd.isAgg3 rfl (cell_box 0 rfl rfl)) rfl rfl rfl ?_
                      refine gq (y_move (v := .int _ _) rfl) rfl rfl rfl ?_
                      refine gq (y_strslice Tryd.underlying9 rfl rfl rfl (by omega) (by omega) (by omega)) rfl rfl rfl ?_
                      refine gq (y_move (v := .int _ _) rfl) rfl rfl rfl ?_
                      refine gq (y_assign (v := .string _) rfl) rfl rfl rfl ?_
                      refine gq (y_assign (v := .int _ _) rfl) rfl rfl rfl ?_
                      refine gqs_nil ?_
                      refine hN14 _ _ ?_
                      refine gfrom [(2, .string _), (3, .int _ _)] ⟨rfl, rfl, trivial⟩ fun σ => ?_
                      refine gret fun w1 hM => ?_
                      refine ⟨_, res2 rfl (rt (v := .string _) rfl) (rt (v := .int _ _) rfl), ?_⟩
                      rw [hat, hN]
                      exact ⟨by simp, weak_take (T' := [_, fr]) rfl _ hM⟩
                · 
                  have hg80d := of_decide_eq_false hg80
                  refine gop_off rfl rfl rfl rfl hg80 rfl rfl ?_
                  refine gop_off rfl rfl rfl rfl hg80 rfl rfl ?_
                  refine gop_off rfl rfl rfl rfl hg80 rfl rfl ?_
                  refine gop_off rfl rfl rfl rfl hg80 rfl rfl ?_
                  refine gop_off rfl rfl rfl rfl hg80 rfl rfl ?_
                  refine gop_off rfl rfl rfl rfl hg80 rfl rfl ?_
                  refine gop (y_pick_f (v := .bool _) rfl hg80 rfl) rfl rfl rfl ?_
                  refine gop (y_move (v := .bool _) rfl) rfl rfl rfl ?_
                  refine gop_off rfl rfl rfl rfl rfl rfl rfl ?_
                  refine gop_off rfl rfl rfl rfl rfl rfl rfl ?_
                  refine gop_off rfl rfl rfl rfl rfl rfl rfl ?_
                  refine gop_off rfl rfl rfl rfl rfl rfl rfl ?_
                  refine gop_off rfl rfl rfl rfl rfl rfl rfl ?_
                  refine gop_off rfl rfl rfl rfl rfl rfl rfl ?_
                  refine gop_off rfl rfl rfl rfl rfl rfl rfl ?_
                  refine gop (y_pick_f (v := .bool _) rfl rfl rfl) rfl rfl rfl ?_
                  refine gop (y_move (v := .bool _) rfl) rfl rfl rfl ?_
                  refine gop_off rfl rfl rfl rfl rfl rfl rfl ?_
                  refine gop_off rfl rfl rfl rfl rfl rfl rfl ?_
                  refine gop_off rfl rfl rfl rfl rfl rfl rfl ?_
                  refine gop_off rfl rfl rfl rfl rfl rfl rfl ?_
                  refine gop_off rfl rfl rfl rfl rfl rfl rfl ?_
                  refine gop_off rfl rfl rfl rfl rfl rfl rfl ?_
                  refine gop_off rfl rfl rfl rfl rfl rfl rfl ?_
                  refine gop (y_pick_f (v := .bool _) rfl rfl rfl) rfl rfl rfl ?_
                  refine gops_nil ?_
                  refine hN11 _ _ ?_
                  refine gfrom [(0, .pointer (some ⟨sg, 0, none⟩)), (4, .int _ _), (106, .bool _)] ⟨rfl, rfl, rfl, trivial⟩ fun σ => ?_
                  refine gcond (b := _) rfl (fun hc106 => ?_) (fun hc106 => ?_)
                  · 
                    cases hc106
                  · 
                    have hend : endW s j = k := by rw [← hks]; exact run_stop (fun h => decide_eq_false (by omega))
                    have hN : nextW s j = k := by
                      rw [nextW, hend, if_neg]
                      rintro ⟨e1, e2⟩
                      have h9 := end_gt e2 (decide_eq_true ⟨hsp e2, (hnp e2).1, (hnp e2).2⟩)
                      omega
                    refine gexit ?_
                    refine hN9 _ _ ?_
                    refine gfrom [(0, .pointer (some ⟨sg, 0, none⟩)), (4, .int _ _)] ⟨rfl, rfl, trivial⟩ fun σ => ?_
                    refine gseq fun N15 hN15 => ?_
                    refine greg_q (by kernel_rfl) (by kernel_rfl) ?_
                    refine gq (y_move (v := .pointer (some ⟨sg, 0, none⟩)) rfl) rfl rfl rfl ?_
                    refine gq (y_nilCheck rfl) rfl rfl rfl ?_
                    refine gq (y_fieldAddr_box fa65_0 rfl) rfl rfl rfl ?_
                    refine gq (y_load Tryd.isAgg9 rfl (cell_box 0 rfl rfl)) rfl rfl rfl ?_
                    refine gq (y_move (v := .pointer (some ⟨sg, 0, none⟩)) rfl) rfl rfl rfl ?_
                    refine gq (y_nilCheck rfl) rfl rfl rfl ?_
                    refine gq (y_fieldAddr_box fa65_1 rfl) rfl rfl rfl ?_
                    refine gq (y_load Tryd.isAgg3 rfl (cell_box 0 rfl rfl)) rfl rfl rfl ?_
                    refine gq (y_move (v := .int _ _) rfl) rfl rfl rfl ?_
                    refine gq (y_strslice Tryd.underlying9 rfl rfl rfl (by omega) (by omega) (by omega)) rfl rfl rfl ?_
                    refine gq (y_move (v := .int _ _) rfl) rfl rfl rfl ?_
                    refine gq (y_assign (v := .string _) rfl) rfl rfl rfl ?_
                    refine gq (y_assign (v := .int _ _) rfl) rfl rfl rfl ?_
                    refine gqs_nil ?_
                    refine hN15 _ _ ?_
                    refine gfrom [(2, .string _), (3, .int _ _)] ⟨rfl, rfl, trivial⟩ fun σ => ?_
                    refine gret fun w1 hM => ?_
                    refine ⟨_, res2 rfl (rt (v := .string _) rfl) (rt (v := .int _ _) rfl), ?_⟩
                    rw [hat, hN]
                    exact ⟨by simp, weak_take (T' := [_, fr]) rfl _ hM⟩
          · 
            have hg53d := of_decide_eq_true hg53
            refine gop_off rfl rfl rfl rfl hg53 rfl rfl ?_
            refine gop_off rfl rfl rfl rfl hg53 rfl rfl ?_
            refine gop_off rfl rfl rfl rfl hg53 rfl rfl ?_
            refine gop_off rfl rfl rfl rfl hg53 rfl rfl ?_
            refine gop_off rfl rfl rfl rfl hg53 rfl rfl ?_
            refine gop_off rfl rfl rfl rfl hg53 rfl rfl ?_
            refine gop_on rfl rfl rfl rfl hg45 ?_
            refine gop (y_bare (y_pick_t (v := .bool _) rfl hg53 rfl)) rfl rfl rfl ?_
            refine gop (y_pick_t (v := .bool _) rfl hg45 rfl) rfl rfl rfl ?_
            refine gops_nil ?_
            refine hN7 _ _ ?_
            refine gfrom [(0, .pointer (some ⟨sg, 0, none⟩)), (4, .int _ _), (62, .bool _)] ⟨rfl, rfl, rfl, trivial⟩ fun σ => ?_
            refine gcond (b := _) rfl (fun hc62 => ?_) (fun hc62 => ?_)
            · 
              have hN : nextW s j = j + 1 := by rw [nextW, show endW s j = j from run_stop (fun _ => decide_eq_false (by omega)), if_pos (by omega)]
              refine gseq fun N16 hN16 => ?_
              refine greg ?_
              refine gop (y_move (v := .pointer (some ⟨sg, 0, none⟩)) rfl) rfl rfl rfl ?_
              refine gop (y_nilCheck rfl) rfl rfl rfl ?_
              refine gop (y_fieldAddr_box fa65_0 rfl) rfl rfl rfl ?_
              refine gop (y_load Tryd.isAgg9 rfl (cell_box 0 rfl rfl)) rfl rfl rfl ?_
              refine gop (y_move (v := .int _ _) rfl) rfl rfl rfl ?_
              refine gop (y_move (v := .int _ _) rfl) rfl rfl rfl ?_
              refine gop (y_add rfl rfl ⟨by omega, by omega⟩) rfl rfl rfl ?_
              refine gop (y_strslice Tryd.underlying9 rfl rfl rfl (by omega) (by omega) (by omega)) rfl rfl rfl ?_
              refine gop (y_move (v := .int _ _) rfl) rfl rfl rfl ?_
              refine gop (y_add rfl rfl ⟨by omega, by omega⟩) rfl rfl rfl ?_
              refine gop (y_assign (v := .string _) rfl) rfl rfl rfl ?_
              refine gop (y_assign (v := .int _ _) rfl) rfl rfl rfl ?_
              refine gops_nil ?_
              refine hN16 _ _ ?_
              refine gfrom [(2, .string _), (3, .int _ _)] ⟨rfl, rfl, trivial⟩ fun σ => ?_
              refine gret fun w1 hM => ?_
              refine ⟨_, res2 rfl (rt (v := .string _) rfl) (rt (v := .int _ _) rfl), ?_⟩
              rw [hat, hN]
              exact ⟨by simp, weak_take (T' := [_, fr]) rfl _ hM⟩
            · 
              cases hc62
        · 
          have hg45d := of_decide_eq_false hg45
          refine gop_off rfl rfl rfl rfl hg45 rfl rfl ?_
          refine gop_off rfl rfl rfl rfl hg45 rfl rfl ?_
          refine gop_off rfl rfl rfl rfl hg45 rfl rfl ?_
          refine gop_off rfl rfl rfl rfl hg45 rfl rfl ?_
          refine gop_off rfl rfl rfl rfl hg45 rfl rfl ?_
          refine gop_off rfl rfl rfl rfl hg45 rfl rfl ?_
          refine gop_off rfl rfl rfl rfl hg45 rfl rfl ?_
          refine gop_offu rfl rfl rfl rfl rfl rfl ?_
          refine gop_offu rfl rfl rfl rfl rfl rfl ?_
          refine gop_offu rfl rfl rfl rfl rfl rfl ?_
          refine gop_offu rfl rfl rfl rfl rfl rfl ?_
          refine gop_offu rfl rfl rfl rfl rfl rfl ?_
          refine gop_offu rfl rfl rfl rfl rfl rfl ?_
          refine gop_offu rfl rfl rfl rfl rfl rfl ?_
          refine gop_off rfl rfl rfl rfl hg45 rfl rfl ?_
          refine gop (y_pick_f (v := .bool _) rfl hg45 rfl) rfl rfl rfl ?_
          refine gops_nil ?_
          refine hN7 _ _ ?_
          refine gfrom [(0, .pointer (some ⟨sg, 0, none⟩)), (4, .int _ _), (62, .bool _)] ⟨rfl, rfl, rfl, trivial⟩ fun σ => ?_
          refine gcond (b := _) rfl (fun hc62 => ?_) (fun hc62 => ?_)
          · 
            cases hc62
          · 
            have hnp : j < s.size → byteAt s j ≠ 40 ∧ byteAt s j ≠ 41 := fun h => by omega
            refine gskip ?_
            refine hN6 _ _ ?_
            refine gfrom [(0, .pointer (some ⟨sg, 0, none⟩)), (4, .int _ _)] ⟨rfl, rfl, trivial⟩ fun σ => ?_
            refine gseq fun N17 hN17 => ?_
            refine gblock ?_
            refine gfrom2 [(4, .int _ _)] [(0, .pointer (some ⟨sg, 0, none⟩))] ⟨rfl, trivial⟩ ⟨rfl, trivial⟩ fun σ => ?_
            refine gloop2 (G := Nat) (fun k => k ≤ s.size ∧ endW s k = endW s j ∧ j ≤ k) (fun k => s.size - k) (fun k => [(4, .int .i64 (k : Int))]) (fun k => []) (j) ?h0 ⟨rfl, trivial⟩ ⟨rfl, trivial⟩ rfl ?round
            case h0 => exact ⟨hj, rfl, Nat.le_refl _⟩
            case round =>
              intro k hφ σ
              obtain ⟨hk, hks, hjk⟩ := hφ
              refine gseq fun N18 hN18 => ?_
              refine gseq fun N19 hN19 => ?_
              refine greg ?_
              refine gop (y_move (v := .int _ _) rfl) rfl rfl rfl ?_
              refine gop (y_move (v := .pointer (some ⟨sg, 0, none⟩)) rfl) rfl rfl rfl ?_
              refine gop (y_nilCheck rfl) rfl rfl rfl ?_
              refine gop (y_fieldAddr_box fa65_0 rfl) rfl rfl rfl ?_
              refine gop (y_load Tryd.isAgg9 rfl (cell_box 0 rfl rfl)) rfl rfl rfl ?_
              refine gop (y_lens Tryd.underlying9 rfl) rfl rfl rfl ?_
              refine gop (y_lss rfl rfl) rfl rfl rfl ?_
              refine gop (y_move (v := .bool _) rfl) rfl rfl rfl ?_
              refine gop_if (want := true) rfl rfl rfl rfl rfl rfl (fun hg80 => ?_) (fun hg80 => ?_)
              · 
                have hg80d := of_decide_eq_true hg80
                refine gop (y_bare (y_move (v := .pointer (some ⟨sg, 0, none⟩)) rfl)) rfl rfl rfl ?_
                refine gop_on rfl rfl rfl rfl hg80 ?_
                refine gop (y_bare (y_nilCheck rfl)) rfl rfl rfl ?_
                refine gop_on rfl rfl rfl rfl hg80 ?_
                refine gop (y_bare (y_fieldAddr_box fa65_0 rfl)) rfl rfl rfl ?_
                refine gop_on rfl rfl rfl rfl hg80 ?_
                refine gop (y_bare (y_load Tryd.isAgg9 rfl (cell_box 0 rfl rfl))) rfl rfl rfl ?_
                refine gop_on rfl rfl rfl rfl hg80 ?_
                refine gop (y_bare (y_move (v := .int _ _) rfl)) rfl rfl rfl ?_
                refine gop_on rfl rfl rfl rfl hg80 ?_
                refine gop (y_bare (y_stridx (m := k) Tryd.underlying9 rfl rfl (by omega) (by omega) (by omega))) rfl rfl rfl ?_
                refine gop_on rfl rfl rfl rfl hg80 ?_
                refine gop (y_bare (y_neq rfl rfl)) rfl rfl rfl ?_
                refine gop (y_pick_t (v := .bool _) rfl hg80 rfl) rfl rfl rfl ?_
                refine gop (y_move (v := .bool _) rfl) rfl rfl rfl ?_
                refine gop_if (want := true) rfl rfl rfl rfl rfl rfl (fun hg89 => ?_) (fun hg89 => ?_)
                · 
                  have hg89d := of_decide_eq_true hg89
                  refine gop (y_bare (y_move (v := .pointer (some ⟨sg, 0, none⟩)) rfl)) rfl rfl rfl ?_
                  refine gop_on rfl rfl rfl rfl hg89 ?_
                  refine gop (y_bare (y_nilCheck rfl)) rfl rfl rfl ?_
                  refine gop_on rfl rfl rfl rfl hg89 ?_
                  refine gop (y_bare (y_fieldAddr_box fa65_0 rfl)) rfl rfl rfl ?_
                  refine gop_on rfl rfl rfl rfl hg89 ?_
                  refine gop (y_bare (y_load Tryd.isAgg9 rfl (cell_box 0 rfl rfl))) rfl rfl rfl ?_
                  refine gop_on rfl rfl rfl rfl hg89 ?_
                  refine gop (y_bare (y_move (v := .int _ _) rfl)) rfl rfl rfl ?_
                  refine gop_on rfl rfl rfl rfl hg89 ?_
                  refine gop (y_bare (y_stridx (m := k) Tryd.underlying9 rfl rfl (by omega) (by omega) (by omega))) rfl rfl rfl ?_
                  refine gop_on rfl rfl rfl rfl hg89 ?_
                  refine gop (y_bare (y_neq rfl rfl)) rfl rfl rfl ?_
                  refine gop (y_pick_t (v := .bool _) rfl hg89 rfl) rfl rfl rfl ?_
                  refine gop (y_move (v := .bool _) rfl) rfl rfl rfl ?_
                  refine gop_if (want := true) rfl rfl rfl rfl rfl rfl (fun hg98 => ?_) (fun hg98 => ?_)
                  · 
                    have hg98d := of_decide_eq_true hg98
                    refine gop (y_bare (y_move (v := .pointer (some ⟨sg, 0, none⟩)) rfl)) rfl rfl rfl ?_
                    refine gop_on rfl rfl rfl rfl hg98 ?_
                    refine gop (y_bare (y_nilCheck rfl)) rfl rfl rfl ?_
                    refine gop_on rfl rfl rfl rfl hg98 ?_
                    refine gop (y_bare (y_fieldAddr_box fa65_0 rfl)) rfl rfl rfl ?_
                    refine gop_on rfl rfl rfl rfl hg98 ?_
                    refine gop (y_bare (y_load Tryd.isAgg9 rfl (cell_box 0 rfl rfl))) rfl rfl rfl ?_
                    refine gop_on rfl rfl rfl rfl hg98 ?_
                    refine gop (y_bare (y_move (v := .int _ _) rfl)) rfl rfl rfl ?_
                    refine gop_on rfl rfl rfl rfl hg98 ?_
                    refine gop (y_bare (y_stridx (m := k) Tryd.underlying9 rfl rfl (by omega) (by omega) (by omega))) rfl rfl rfl ?_
                    refine gop_on rfl rfl rfl rfl hg98 ?_
                    refine gop (y_bare (y_neq rfl rfl)) rfl rfl rfl ?_
                    refine gop (y_pick_t (v := .bool _) rfl hg98 rfl) rfl rfl rfl ?_
                    refine gops_nil ?_
                    refine hN19 _ _ ?_
                    refine gfrom [(0, .pointer (some ⟨sg, 0, none⟩)), (4, .int _ _), (106, .bool _)] ⟨rfl, rfl, rfl, trivial⟩ fun σ => ?_
                    refine gcond (b := _) rfl (fun hc106 => ?_) (fun hc106 => ?_)
                    · 
                      replace hc106 := of_decide_eq_true hc106
                      have hk1 : k < s.size := by omega
                      have hw : woB s k = true := decide_eq_true (by omega)
                      refine gskip ?_
                      refine hN18 _ _ ?_
                      refine gfrom [(0, .pointer (some ⟨sg, 0, none⟩)), (4, .int _ _)] ⟨rfl, rfl, trivial⟩ fun σ => ?_
                      refine gblock ?_
                      refine greg ?_
                      refine gop (y_move (v := .int _ _) rfl) rfl rfl rfl ?_
                      refine gop (y_add rfl rfl ⟨by omega, by omega⟩) rfl rfl rfl ?_
                      refine gop (y_assign (v := .int _ _) rfl) rfl rfl rfl ?_
                      refine gops_nil ?_
                      refine gnext2 (k + 1) (by omega) (⟨by show k + 1 ≤ _; omega, by rw [← hks]; exact (run_step hk1 hw).symm, by omega⟩) ⟨rfl, trivial⟩ ⟨rfl, trivial⟩ ⟨_, rfl⟩
                    · 
                      replace hc106 := Decidable.not_not.1 (of_decide_eq_false hc106)
                      have hend : endW s j = k := by rw [← hks]; exact run_stop (fun h => decide_eq_false (by omega))
                      have hN : nextW s j = k := by
                        rw [nextW, hend, if_neg]
                        rintro ⟨e1, e2⟩
                        have h9 := end_gt e2 (decide_eq_true ⟨hsp e2, (hnp e2).1, (hnp e2).2⟩)
                        omega
                      refine gexit ?_
                      refine hN17 _ _ ?_
                      refine gfrom [(0, .pointer (some ⟨sg, 0, none⟩)), (4, .int _ _)] ⟨rfl, rfl, trivial⟩ fun σ => ?_
                      refine gseq fun N20 hN20 => ?_
                      refine greg_q (by kernel_rfl) (by kernel_rfl) ?_
                      refine gq (y_move (v := .pointer (some ⟨sg, 0, none⟩)) rfl) rfl rfl rfl ?_
                      refine gq (y_nilCheck rfl) rfl rfl rfl ?_
                      refine gq (y_fieldAddr_box fa65_0 rfl) rfl rfl rfl ?_
                      refine gq (y_load Tryd.isAgg9 rfl (cell_box 0 rfl rfl)) rfl rfl rfl ?_
                      refine gq (y_move (v := .pointer (some ⟨sg, 0, none⟩)) rfl) rfl rfl rfl ?_
                      refine gq (y_nilCheck rfl) rfl rfl rfl ?_
                      refine gq (y_fieldAddr_box fa65_1 rfl) rfl rfl rfl ?_
                      refine gq (y_load Tryd.isAgg3 rfl (cell_box 0 rfl rfl)) rfl rfl rfl ?_
                      refine gq (y_move (v := .int _ _) rfl) rfl rfl rfl ?_
                      refine gq (y_strslice Tryd.underlying9 rfl rfl rfl (by omega) (by omega) (by omega)) rfl rfl rfl ?_
                      refine gq (y_move (v := .int _ _) rfl) rfl rfl rfl ?_
                      refine gq (y_assign (v := .string _) rfl) rfl rfl rfl ?_
                      refine gq (y_assign (v := .int _ _) rfl) rfl rfl rfl ?_
                      refine gqs_nil ?_
                      refine hN20 _ _ ?_
                      refine gfrom [(2, .string _), (3, .int _ _)] ⟨rfl, rfl, trivial⟩ fun σ => ?_
                      refine gret fun w1 hM => ?_
                      refine ⟨_, res2 rfl (rt (v := .string _) rfl) (rt (v := .int _ _) rfl), ?_⟩
                      rw [hat, hN]
                      exact ⟨by simp, weak_take (T' := [_, fr]) rfl _ hM⟩
                  · 
                    have hg98d := Decidable.not_not.1 (of_decide_eq_false hg98)
                    refine gop_off rfl rfl rfl rfl hg98 rfl rfl ?_
                    refine gop_off rfl rfl rfl rfl hg98 rfl rfl ?_
                    refine gop_off rfl rfl rfl rfl hg98 rfl rfl ?_
                    refine gop_off rfl rfl rfl rfl hg98 rfl rfl ?_
                    refine gop_off rfl rfl rfl rfl hg98 rfl rfl ?_
                    refine gop_off rfl rfl rfl rfl hg98 rfl rfl ?_
                    refine gop (y_pick_f (v := .bool _) rfl hg98 rfl) rfl rfl rfl ?_
                    refine gops_nil ?_
                    refine hN19 _ _ ?_
                    refine gfrom [(0, .pointer (some ⟨sg, 0, none⟩)), (4, .int _ _), (106, .bool _)] ⟨rfl, rfl, rfl, trivial⟩ fun σ => ?_
                    refine gcond (b := _) rfl (fun hc106 => ?_) (fun hc106 => ?_)
                    · 
                      cases hc106
                    · 
                      have hend : endW s j = k := by rw [← hks]; exact run_stop (fun h => decide_eq_false (by omega))
                      have hN : nextW s j = k := by
                        rw [nextW, hend, if_neg]
                        rintro ⟨e1, e2⟩
                        have h9 := end_gt e2 (decide_eq_true ⟨hsp e2, (hnp e2).1, (hnp e2).2⟩)
                        omega
                      refine gexit ?_
                      refine hN17 _ _ ?_
                      refine gfrom [(0, .pointer (some ⟨sg, 0, none⟩)), (4, .int _ _)] ⟨rfl, rfl, trivial⟩ fun σ => ?_
                      refine gseq fun N21 hN21 => ?_
                      refine greg_q (by kernel_rfl) (by kernel_rfl) ?_
                      refine gq (y_move (v := .pointer (some ⟨sg, 0, none⟩)) rfl) rfl rfl rfl ?_
                      refine gq (y_nilCheck rfl) rfl rfl rfl ?_
                      refine gq (y_fieldAddr_box fa65_0 rfl) rfl rfl rfl ?_
                      refine gq (y_load Tryd.isAgg9 rfl (cell_box 0 rfl rfl)) rfl rfl rfl ?_
                      refine gq (y_move (v := .pointer (some ⟨sg, 0, none⟩)) rfl) rfl rfl rfl ?_
                      refine gq (y_nilCheck rfl) rfl rfl rfl ?_
                      refine gq (y_fieldAddr_box fa65_1 rfl) rfl rfl rfl ?_
                      refine gq (y_load Tryd.isAgg3 rfl (cell_box 0 rfl rfl)) rfl rfl rfl ?_
                      refine gq (y_move (v := .int _ _) rfl) rfl rfl rfl ?_
                      refine gq (y_strslice Tryd.underlying9 rfl rfl rfl (by omega) (by omega) (by omega)) rfl rfl rfl ?_
                      refine gq (y_move (v := .int _ _) rfl) rfl rfl rfl ?_
                      refine gq (y_assign (v := .string _) rfl) rfl rfl rfl ?_
                      refine gq (y_assign (v := .int _ _) rfl) rfl rfl rfl ?_
                      refine gqs_nil ?_
                      refine hN21 _ _ ?_
                      refine gfrom [(2, .string _), (3, .int _ _)] ⟨rfl, rfl, trivial⟩ fun σ => ?_
                      refine gret fun w1 hM => ?_
                      refine ⟨_, res2 rfl (rt (v := .string _) rfl) (rt (v := .int _ _) rfl), ?_⟩
                      rw [hat, hN]
                      exact ⟨by simp, weak_take (T' := [_, fr]) rfl _ hM⟩
                · 
                  have hg89d := Decidable.not_not.1 (of_decide_eq_false hg89)
                  refine gop_off rfl rfl rfl rfl hg89 rfl rfl ?_
                  refine gop_off rfl rfl rfl rfl hg89 rfl rfl ?_
                  refine gop_off rfl rfl rfl rfl hg89 rfl rfl ?_
                  refine gop_off rfl rfl rfl rfl hg89 rfl rfl ?_
                  refine gop_off rfl rfl rfl rfl hg89 rfl rfl ?_
                  refine gop_off rfl rfl rfl rfl hg89 rfl rfl ?_
                  refine gop (y_pick_f (v := .bool _) rfl hg89 rfl) rfl rfl rfl ?_
                  refine gop (y_move (v := .bool _) rfl) rfl rfl rfl ?_
                  refine gop_off rfl rfl rfl rfl rfl rfl rfl ?_
                  refine gop_off rfl rfl rfl rfl rfl rfl rfl ?_
                  refine gop_off rfl rfl rfl rfl rfl rfl rfl ?_
                  refine gop_off rfl rfl rfl rfl rfl rfl rfl ?_
                  refine gop_off rfl rfl rfl rfl rfl rfl rfl ?_
                  refine gop_off rfl rfl rfl rfl rfl rfl rfl ?_
                  refine gop_off rfl rfl rfl rfl rfl rfl rfl ?_
                  refine gop (y_pick_f (v := .bool _) rfl rfl rfl) rfl rfl rfl ?_
                  refine gops_nil ?_
                  refine hN19 _ _ ?_
                  refine gfrom [(0, .pointer (some ⟨sg, 0, none⟩)), (4, .int _ _), (106, .bool _)] ⟨rfl, rfl, rfl, trivial⟩ fun σ => ?_
                  refine gcond (b := _) rfl (fun hc106 => ?_) (fun hc106 => ?_)
                  · 
                    cases hc106
                  · 
                    have hend : endW s j = k := by rw [← hks]; exact run_stop (fun h => decide_eq_false (by omega))
                    have hN : nextW s j = k := by
                      rw [nextW, hend, if_neg]
                      rintro ⟨e1, e2⟩
                      have h9 := end_gt e2 (decide_eq_true ⟨hsp e2, (hnp e2).1, (hnp e2).2⟩)
                      omega
                    refine gexit ?_
                    refine hN17 _ _ ?_
                    refine gfrom [(0, .pointer (some ⟨sg, 0, none⟩)), (4, .int _ _)] ⟨rfl, rfl, trivial⟩ fun σ => ?_
                    refine gseq fun N22 hN22 => ?_
                    refine greg_q (by kernel_rfl) (by kernel_rfl) ?_
                    refine gq (y_move (v := .pointer (some ⟨sg, 0, none⟩)) rfl) rfl rfl rfl ?_
                    refine gq (y_nilCheck rfl) rfl rfl rfl ?_
                    refine gq (y_fieldAddr_box fa65_0 rfl) rfl rfl rfl ?_
                    refine gq (y_load Tryd.isAgg9 rfl (cell_box 0 rfl rfl)) rfl rfl rfl ?_
                    refine gq (y_move (v := .pointer (some ⟨sg, 0, none⟩)) rfl) rfl rfl rfl ?_
                    refine gq (y_nilCheck rfl) rfl rfl rfl ?_
                    refine gq (y_fieldAddr_box fa65_1 rfl) rfl rfl rfl ?_
                    refine gq (y_load Tryd.isAgg3 rfl (cell_box 0 rfl rfl)) rfl rfl rfl ?_
                    refine gq (y_move (v := .int _ _) rfl) rfl rfl rfl ?_
                    refine gq (y_strslice Tryd.underlying9 rfl rfl rfl (by omega) (by omega) (by omega)) rfl rfl rfl ?_
                    refine gq (y_move (v := .int _ _) rfl) rfl rfl rfl ?_
                    refine gq (y_assign (v := .string _) rfl) rfl rfl rfl ?_
                    refine gq (y_assign (v := .int _ _) rfl) rfl rfl rfl ?_
                    refine gqs_nil ?_
                    refine hN22 _ _ ?_
                    refine gfrom [(2, .string _), (3, .int _ _)] ⟨rfl, rfl, trivial⟩ fun σ => ?_
                    refine gret fun w1 hM => ?_
                    refine ⟨_, res2 rfl (rt (v := .string _) rfl) (rt (v := .int _ _) rfl), ?_⟩
                    rw [hat, hN]
                    exact ⟨by simp, weak_take (T' := [_, fr]) rfl _ hM⟩
              · 
                have hg80d := of_decide_eq_false hg80
                refine gop_off rfl rfl rfl rfl hg80 rfl rfl ?_
                refine gop_off rfl rfl rfl rfl hg80 rfl rfl ?_
                refine gop_off rfl rfl rfl rfl hg80 rfl rfl ?_
                refine gop_off rfl rfl rfl rfl hg80 rfl rfl ?_
                refine gop_off rfl rfl rfl rfl hg80 rfl rfl ?_
                refine gop_off rfl rfl rfl rfl hg80 rfl rfl ?_
                refine gop (y_pick_f (v := .bool _) rfl hg80 rfl) rfl rfl rfl ?_
                refine gop (y_move (v := .bool _) rfl) rfl rfl rfl ?_
                refine gop_off rfl rfl rfl rfl rfl rfl rfl ?_
                refine gop_off rfl rfl rfl rfl rfl rfl rfl ?_
                refine gop_off rfl rfl rfl rfl rfl rfl rfl ?_
                refine gop_off rfl rfl rfl rfl rfl rfl rfl ?_
                refine gop_off rfl rfl rfl rfl rfl rfl rfl ?_
                refine gop_off rfl rfl rfl rfl rfl rfl rfl ?_
                refine gop_off rfl rfl rfl rfl rfl rfl rfl ?_
                refine gop (y_pick_f (v := .bool _) rfl rfl rfl) rfl rfl rfl ?_
                refine gop (y_move (v := .bool _) rfl) rfl rfl rfl ?_
                refine gop_off rfl rfl rfl rfl rfl rfl rfl ?_
                refine gop_off rfl rfl rfl rfl rfl rfl rfl ?_
                refine gop_off rfl rfl rfl rfl rfl rfl rfl ?_
                refine gop_off rfl rfl rfl rfl rfl rfl rfl ?_
                refine gop_off rfl rfl rfl rfl rfl rfl rfl ?_
                refine gop_off rfl rfl rfl rfl rfl rfl rfl ?_
                refine gop_off rfl rfl rfl rfl rfl rfl rfl ?_
                refine gop (y_pick_f (v := .bool _) rfl rfl rfl) rfl rfl rfl ?_
                refine gops_nil ?_
                refine hN19 _ _ ?_
                refine gfrom [(0, .pointer (some ⟨sg, 0, none⟩)), (4, .int _ _), (106, .bool _)] ⟨rfl, rfl, rfl, trivial⟩ fun σ => ?_
                refine gcond (b := _) rfl (fun hc106 => ?_) (fun hc106 => ?_)
                · 
                  cases hc106
                · 
                  have hend : endW s j = k := by rw [← hks]; exact run_stop (fun h => decide_eq_false (by omega))
                  have hN : nextW s j = k := by
                    rw [nextW, hend, if_neg]
                    rintro ⟨e1, e2⟩
                    have h9 := end_gt e2 (decide_eq_true ⟨hsp e2, (hnp e2).1, (hnp e2).2⟩)
                    omega
                  refine gexit ?_
                  refine hN17 _ _ ?_
                  refine gfrom [(0, .pointer (some ⟨sg, 0, none⟩)), (4, .int _ _)] ⟨rfl, rfl, trivial⟩ fun σ => ?_
                  refine gseq fun N23 hN23 => ?_
                  refine greg_q (by kernel_rfl) (by kernel_rfl) ?_
                  refine gq (y_move (v := .pointer (some ⟨sg, 0, none⟩)) rfl) rfl rfl rfl ?_
                  refine gq (y_nilCheck rfl) rfl rfl rfl ?_
                  refine gq (y_fieldAddr_box fa65_0 rfl) rfl rfl rfl ?_
                  refine gq (y_load Tryd.isAgg9 rfl (cell_box 0 rfl rfl)) rfl rfl rfl ?_
                  refine gq (y_move (v := .pointer (some ⟨sg, 0, none⟩)) rfl) rfl rfl rfl ?_
                  refine gq (y_nilCheck rfl) rfl rfl rfl ?_
                  refine gq (y_fieldAddr_box fa65_1 rfl) rfl rfl rfl ?_
                  refine gq (y_load Tryd.isAgg3 rfl (cell_box 0 rfl rfl)) rfl rfl rfl ?_
                  refine gq (y_move (v := .int _ _) rfl) rfl rfl rfl ?_
                  refine gq (y_strslice Tryd.underlying9 rfl rfl rfl (by omega) (by omega) (by omega)) rfl rfl rfl ?_
                  refine gq (y_move (v := .int _ _) rfl) rfl rfl rfl ?_
                  refine gq (y_assign (v := .string _) rfl) rfl rfl rfl ?_
                  refine gq (y_assign (v := .int _ _) rfl) rfl rfl rfl ?_
                  refine gqs_nil ?_
                  refine hN23 _ _ ?_
                  refine gfrom [(2, .string _), (3, .int _ _)] ⟨rfl, rfl, trivial⟩ fun σ => ?_
                  refine gret fun w1 hM => ?_
                  refine ⟨_, res2 rfl (rt (v := .string _) rfl) (rt (v := .int _ _) rfl), ?_⟩
                  rw [hat, hN]
                  exact ⟨by simp, weak_take (T' := [_, fr]) rfl _ hM⟩
    · 
      have hg15d := of_decide_eq_false hg15
      refine gq_off rfl rfl rfl rfl hg15 rfl rfl ?_
      refine gq_off rfl rfl rfl rfl hg15 rfl rfl ?_
      refine gq_off rfl rfl rfl rfl hg15 rfl rfl ?_
      refine gq_off rfl rfl rfl rfl hg15 rfl rfl ?_
      refine gq_off rfl rfl rfl rfl hg15 rfl rfl ?_
      refine gq_off rfl rfl rfl rfl hg15 rfl rfl ?_
      refine gq_off rfl rfl rfl rfl hg15 rfl rfl ?_
      refine gq_off rfl rfl rfl rfl hg15 rfl rfl ?_
      refine gq_off rfl rfl rfl rfl hg15 rfl rfl ?_
      refine gq (y_pick_f (v := .bool _) rfl hg15 rfl) rfl rfl rfl ?_
      refine gqs_nil ?_
      refine hN4 _ _ ?_
      refine gfrom [(0, .pointer (some ⟨sg, 0, none⟩)), (26, .bool _)] ⟨rfl, rfl, trivial⟩ fun σ => ?_
      refine gcond (b := _) rfl (fun hc26 => ?_) (fun hc26 => ?_)
      · 
        cases hc26
      · 
        have hat : skipW s a0 = j := by rw [← hjs]; exact run_stop (fun h => decide_eq_false (by omega))
        have hsp : j < s.size → byteAt s j ≠ 32 := fun h => by omega
        refine gexit ?_
        refine hN2 _ _ ?_
        refine gfrom [(0, .pointer (some ⟨sg, 0, none⟩))] ⟨rfl, trivial⟩ fun σ => ?_
        refine gseq fun N24 hN24 => ?_
        refine greg ?_
        refine gop (y_move (v := .pointer (some ⟨sg, 0, none⟩)) rfl) rfl rfl rfl ?_
        refine gop (y_nilCheck rfl) rfl rfl rfl ?_
        refine gop (y_fieldAddr_box fa65_1 rfl) rfl rfl rfl ?_
        refine gop (y_load Tryd.isAgg3 rfl (cell_box 0 rfl rfl)) rfl rfl rfl ?_
        refine gop (y_assign (v := .int _ _) rfl) rfl rfl rfl ?_
        refine gops_nil ?_
        refine hN24 _ _ ?_
        refine gfrom [(0, .pointer (some ⟨sg, 0, none⟩)), (4, .int _ _)] ⟨rfl, rfl, trivial⟩ fun σ => ?_
        refine gseq fun N25 hN25 => ?_
        refine gseq fun N26 hN26 => ?_
        refine greg ?_
        refine gop (y_move (v := .int _ _) rfl) rfl rfl rfl ?_
        refine gop (y_move (v := .pointer (some ⟨sg, 0, none⟩)) rfl) rfl rfl rfl ?_
        refine gop (y_nilCheck rfl) rfl rfl rfl ?_
        refine gop (y_fieldAddr_box fa65_0 rfl) rfl rfl rfl ?_
        refine gop (y_load Tryd.isAgg9 rfl (cell_box 0 rfl rfl)) rfl rfl rfl ?_
        refine gop (y_lens Tryd.underlying9 rfl) rfl rfl rfl ?_
        refine gop (y_lss rfl rfl) rfl rfl rfl ?_
        refine gop (y_move (v := .bool _) rfl) rfl rfl rfl ?_
        refine gop_if (want := true) rfl rfl rfl rfl rfl rfl (fun hg45 => ?_) (fun hg45 => ?_)
        · 
          have hg45d := of_decide_eq_true hg45
          refine gop (y_bare (y_move (v := .pointer (some ⟨sg, 0, none⟩)) rfl)) rfl rfl rfl ?_
          refine gop_on rfl rfl rfl rfl hg45 ?_
          refine gop (y_bare (y_nilCheck rfl)) rfl rfl rfl ?_
          refine gop_on rfl rfl rfl rfl hg45 ?_
          refine gop (y_bare (y_fieldAddr_box fa65_0 rfl)) rfl rfl rfl ?_
          refine gop_on rfl rfl rfl rfl hg45 ?_
          refine gop (y_bare (y_load Tryd.isAgg9 rfl (cell_box 0 rfl rfl))) rfl rfl rfl ?_
          refine gop_on rfl rfl rfl rfl hg45 ?_
          refine gop (y_bare (y_move (v := .int _ _) rfl)) rfl rfl rfl ?_
          refine gop_on rfl rfl rfl rfl hg45 ?_
          refine gop (y_bare (y_stridx (m := j) Tryd.underlying9 rfl rfl (by omega) (by omega) (by omega))) rfl rfl rfl ?_
          refine gop_on rfl rfl rfl rfl hg45 ?_
          refine gop (y_bare (y_eql rfl rfl)) rfl rfl rfl ?_
          refine gop_on rfl rfl rfl rfl hg45 ?_
          refine gop (y_bare (y_move (v := .bool _) rfl)) rfl rfl rfl ?_
          refine gop_if (want := false) rfl rfl rfl rfl rfl rfl (fun hg53 => ?_) (fun hg53 => ?_)
          · 
            have hg53d := of_decide_eq_false hg53
            refine gop (y_bare (y_move (v := .pointer (some ⟨sg, 0, none⟩)) rfl)) rfl rfl rfl ?_
            refine gop_on rfl rfl rfl rfl hg53 ?_
            refine gop (y_bare (y_nilCheck rfl)) rfl rfl rfl ?_
            refine gop_on rfl rfl rfl rfl hg53 ?_
            refine gop (y_bare (y_fieldAddr_box fa65_0 rfl)) rfl rfl rfl ?_
            refine gop_on rfl rfl rfl rfl hg53 ?_
            refine gop (y_bare (y_load Tryd.isAgg9 rfl (cell_box 0 rfl rfl))) rfl rfl rfl ?_
            refine gop_on rfl rfl rfl rfl hg53 ?_
            refine gop (y_bare (y_move (v := .int _ _) rfl)) rfl rfl rfl ?_
            refine gop_on rfl rfl rfl rfl hg53 ?_
            refine gop (y_bare (y_stridx (m := j) Tryd.underlying9 rfl rfl (by omega) (by omega) (by omega))) rfl rfl rfl ?_
            refine gop_on rfl rfl rfl rfl hg53 ?_
            refine gop (y_bare (y_eql rfl rfl)) rfl rfl rfl ?_
            refine gop_on rfl rfl rfl rfl hg45 ?_
            refine gop (y_bare (y_pick_f (v := .bool _) rfl hg53 rfl)) rfl rfl rfl ?_
            refine gop (y_pick_t (v := .bool _) rfl hg45 rfl) rfl rfl rfl ?_
            refine gops_nil ?_
            refine hN26 _ _ ?_
            refine gfrom [(0, .pointer (some ⟨sg, 0, none⟩)), (4, .int _ _), (62, .bool _)] ⟨rfl, rfl, rfl, trivial⟩ fun σ => ?_
            refine gcond (b := _) rfl (fun hc62 => ?_) (fun hc62 => ?_)
            · 
              replace hc62 := of_decide_eq_true hc62
              have hN : nextW s j = j + 1 := by rw [nextW, show endW s j = j from run_stop (fun _ => decide_eq_false (by omega)), if_pos (by omega)]
              refine gseq fun N27 hN27 => ?_
              refine greg ?_
              refine gop (y_move (v := .pointer (some ⟨sg, 0, none⟩)) rfl) rfl rfl rfl ?_
              refine gop (y_nilCheck rfl) rfl rfl rfl ?_
              refine gop (y_fieldAddr_box fa65_0 rfl) rfl rfl rfl ?_
              refine gop (y_load Tryd.isAgg9 rfl (cell_box 0 rfl rfl)) rfl rfl rfl ?_
              refine gop (y_move (v := .int _ _) rfl) rfl rfl rfl ?_
              refine gop (y_move (v := .int _ _) rfl) rfl rfl rfl ?_
              refine gop (y_add rfl rfl ⟨by omega, by omega⟩) rfl rfl rfl ?_
              refine gop (y_strslice Tryd.underlying9 rfl rfl rfl (by omega) (by omega) (by omega)) rfl rfl rfl ?_
              refine gop (y_move (v := .int _ _) rfl) rfl rfl rfl ?_
              refine gop (y_add rfl rfl ⟨by omega, by omega⟩) rfl rfl rfl ?_
              refine gop (y_assign (v := .string _) rfl) rfl rfl rfl ?_
              refine gop (y_assign (v := .int _ _) rfl) rfl rfl rfl ?_
              refine gops_nil ?_
              refine hN27 _ _ ?_
              refine gfrom [(2, .string _), (3, .int _ _)] ⟨rfl, rfl, trivial⟩ fun σ => ?_
              refine gret fun w1 hM => ?_
              refine ⟨_, res2 rfl (rt (v := .string _) rfl) (rt (v := .int _ _) rfl), ?_⟩
              rw [hat, hN]
              exact ⟨by simp, weak_take (T' := [_, fr]) rfl _ hM⟩
            · 
              replace hc62 := of_decide_eq_false hc62
              have hnp : j < s.size → byteAt s j ≠ 40 ∧ byteAt s j ≠ 41 := fun h => by omega
              refine gskip ?_
              refine hN25 _ _ ?_
              refine gfrom [(0, .pointer (some ⟨sg, 0, none⟩)), (4, .int _ _)] ⟨rfl, rfl, trivial⟩ fun σ => ?_
              refine gseq fun N28 hN28 => ?_
              refine gblock ?_
              refine gfrom2 [(4, .int _ _)] [(0, .pointer (some ⟨sg, 0, none⟩))] ⟨rfl, trivial⟩ ⟨rfl, trivial⟩ fun σ => ?_
              refine gloop2 (G := Nat) (fun k => k ≤ s.size ∧ endW s k = endW s j ∧ j ≤ k) (fun k => s.size - k) (fun k => [(4, .int .i64 (k : Int))]) (fun k => []) (j) ?h0 ⟨rfl, trivial⟩ ⟨rfl, trivial⟩ rfl ?round
              case h0 => exact ⟨hj, rfl, Nat.le_refl _⟩
              case round =>
                intro k hφ σ
                obtain ⟨hk, hks, hjk⟩ := hφ
                refine gseq fun N29 hN29 => ?_
                refine gseq fun N30 hN30 => ?_
                refine greg ?_
                refine gop (y_move (v := .int _ _) rfl) rfl rfl rfl ?_
                refine gop (y_move (v := .pointer (some ⟨sg, 0, none⟩)) rfl) rfl rfl rfl ?_
                refine gop (y_nilCheck rfl) rfl rfl rfl ?_
                refine gop (y_fieldAddr_box fa65_0 rfl) rfl rfl rfl ?_
                refine gop (y_load Tryd.isAgg9 rfl (cell_box 0 rfl rfl)) rfl rfl rfl ?_
                refine gop (y_lens Tryd.underlying9 rfl) rfl rfl rfl ?_
                refine gop (y_lss rfl rfl) rfl rfl rfl ?_
                refine gop (y_move (v := .bool _) rfl) rfl rfl rfl ?_
                refine gop_if (want := true) rfl rfl rfl rfl rfl rfl (fun hg80 => ?_) (fun hg80 => ?_)
                · 
                  have hg80d := of_decide_eq_true hg80
                  refine gop (y_bare (y_move (v := .pointer (some ⟨sg, 0, none⟩)) rfl)) rfl rfl rfl ?_
                  refine gop_on rfl rfl rfl rfl hg80 ?_
                  refine gop (y_bare (y_nilCheck rfl)) rfl rfl rfl ?_
                  refine gop_on rfl rfl rfl rfl hg80 ?_
                  refine gop (y_bare (y_fieldAddr_box fa65_0 rfl)) rfl rfl rfl ?_
                  refine gop_on rfl rfl rfl rfl hg80 ?_
                  refine gop (y_bare (y_load Tryd.isAgg9 rfl (cell_box 0 rfl rfl))) rfl rfl rfl ?_
                  refine gop_on rfl rfl rfl rfl hg80 ?_
                  refine gop (y_bare (y_move (v := .int _ _) rfl)) rfl rfl rfl ?_
                  refine gop_on rfl rfl rfl rfl hg80 ?_
                  refine gop (y_bare (y_stridx (m := k) Tryd.underlying9 rfl rfl (by omega) (by omega) (by omega))) rfl rfl rfl ?_
                  refine gop_on rfl rfl rfl rfl hg80 ?_
                  refine gop (y_bare (y_neq rfl rfl)) rfl rfl rfl ?_
                  refine gop (y_pick_t (v := .bool _) rfl hg80 rfl) rfl rfl rfl ?_
                  refine gop (y_move (v := .bool _) rfl) rfl rfl rfl ?_
                  refine gop_if (want := true) rfl rfl rfl rfl rfl rfl (fun hg89 => ?_) (fun hg89 => ?_)
                  · 
                    have hg89d := of_decide_eq_true hg89
                    refine gop (y_bare (y_move (v := .pointer (some ⟨sg, 0, none⟩)) rfl)) rfl rfl rfl ?_
                    refine gop_on rfl rfl rfl rfl hg89 ?_
                    refine gop (y_bare (y_nilCheck rfl)) rfl rfl rfl ?_
                    refine gop_on rfl rfl rfl rfl hg89 ?_
                    refine gop (y_bare (y_fieldAddr_box fa65_0 rfl)) rfl rfl rfl ?_
                    refine gop_on rfl rfl rfl rfl hg89 ?_
                    refine gop (y_bare (y_load Tryd.isAgg9 rfl (cell_box 0 rfl rfl))) rfl rfl rfl ?_
                    refine gop_on rfl rfl rfl rfl hg89 ?_
                    refine gop (y_bare (y_move (v := .int _ _) rfl)) rfl rfl rfl ?_
                    refine gop_on rfl rfl rfl rfl hg89 ?_
                    refine gop (y_bare (y_stridx (m := k) Tryd.underlying9 rfl rfl (by omega) (by omega) (by omega))) rfl rfl rfl ?_
                    refine gop_on rfl rfl rfl rfl hg89 ?_
                    refine gop (y_bare (y_neq rfl rfl)) rfl rfl rfl ?_
                    refine gop (y_pick_t (v := .bool _) rfl hg89 rfl) rfl rfl rfl ?_
                    refine gop (y_move (v := .bool _) rfl) rfl rfl rfl ?_
                    refine gop_if (want := true) rfl rfl rfl rfl rfl rfl (fun hg98 => ?_) (fun hg98 => ?_)
                    · 
                      have hg98d := of_decide_eq_true hg98
                      refine gop (y_bare (y_move (v := .pointer (some ⟨sg, 0, none⟩)) rfl)) rfl rfl rfl ?_
                      refine gop_on rfl rfl rfl rfl hg98 ?_
                      refine gop (y_bare (y_nilCheck rfl)) rfl rfl rfl ?_
                      refine gop_on rfl rfl rfl rfl hg98 ?_
                      refine gop (y_bare (y_fieldAddr_box fa65_0 rfl)) rfl rfl rfl ?_
                      refine gop_on rfl rfl rfl rfl hg98 ?_
                      refine gop (y_bare (y_load Tryd.isAgg9 rfl (cell_box 0 rfl rfl))) rfl rfl rfl ?_
                      refine gop_on rfl rfl rfl rfl hg98 ?_
                      refine gop (y_bare (y_move (v := .int _ _) rfl)) rfl rfl rfl ?_
                      refine gop_on rfl rfl rfl rfl hg98 ?_
                      refine gop (y_bare (y_stridx (m := k) Tryd.underlying9 rfl rfl (by omega) (by omega) (by omega))) rfl rfl rfl ?_
                      refine gop_on rfl rfl rfl rfl hg98 ?_
                      refine gop (y_bare (y_neq rfl rfl)) rfl rfl rfl ?_
                      refine gop (y_pick_t (v := .bool _) rfl hg98 rfl) rfl rfl rfl ?_
                      refine gops_nil ?_
                      refine hN30 _ _ ?_
                      refine gfrom [(0, .pointer (some ⟨sg, 0, none⟩)), (4, .int _ _), (106, .bool _)] ⟨rfl, rfl, rfl, trivial⟩ fun σ => ?_
                      refine gcond (b := _) rfl (fun hc106 => ?_) (fun hc106 => ?_)
                      · 
                        replace hc106 := of_decide_eq_true hc106
                        have hk1 : k < s.size := by omega
                        have hw : woB s k = true := decide_eq_true (by omega)
                        refine gskip ?_
                        refine hN29 _ _ ?_
                        refine gfrom [(0, .pointer (some ⟨sg, 0, none⟩)), (4, .int _ _)] ⟨rfl, rfl, trivial⟩ fun σ => ?_
                        refine gblock ?_
                        refine greg ?_
                        refine gop (y_move (v := .int _ _) rfl) rfl rfl rfl ?_
                        refine gop (y_add rfl rfl ⟨by omega, by omega⟩) rfl rfl rfl ?_
                        refine gop (y_assign (v := .int _ _) rfl) rfl rfl rfl ?_
                        refine gops_nil ?_
                        refine gnext2 (k + 1) (by omega) (⟨by show k + 1 ≤ _; omega, by rw [← hks]; exact (run_step hk1 hw).symm, by omega⟩) ⟨rfl, trivial⟩ ⟨rfl, trivial⟩ ⟨_, rfl⟩
                      · 
                        replace hc106 := Decidable.not_not.1 (of_decide_eq_false hc106)
                        have hend : endW s j = k := by rw [← hks]; exact run_stop (fun h => decide_eq_false (by omega))
                        have hN : nextW s j = k := by
                          rw [nextW, hend, if_neg]
                          rintro ⟨e1, e2⟩
                          have h9 := end_gt e2 (decide_eq_true ⟨hsp e2, (hnp e2).1, (hnp e2).2⟩)
                          omega
                        refine gexit ?_
                        refine hN28 _ _ ?_
                        refine gfrom [(0, .pointer (some ⟨sg, 0, none⟩)), (4, .int _ _)] ⟨rfl, rfl, trivial⟩ fun σ => ?_
                        refine gseq fun N31 hN31 => ?_
                        refine greg_q (by kernel_rfl) (by kernel_rfl) ?_
                        refine gq (y_move (v := .pointer (some ⟨sg, 0, none⟩)) rfl) rfl rfl rfl ?_
                        refine gq (y_nilCheck rfl) rfl rfl rfl ?_
                        refine gq (y_fieldAddr_box fa65_0 rfl) rfl rfl rfl ?_
                        refine gq (y_load Tryd.isAgg9 rfl (cell_box 0 rfl rfl)) rfl rfl rfl ?_
                        refine gq (y_move (v := .pointer (some ⟨sg, 0, none⟩)) rfl) rfl rfl rfl ?_
                        refine gq (y_nilCheck rfl) rfl rfl rfl ?_
                        refine gq (y_fieldAddr_box fa65_1 rfl) rfl rfl rfl ?_
                        refine gq (y_load Tryd.isAgg3 rfl (cell_box 0 rfl rfl)) rfl rfl rfl ?_
                        refine gq (y_move (v := .int _ _) rfl) rfl rfl rfl ?_
                        refine gq (y_strslice Tryd.underlying9 rfl rfl rfl (by omega) (by omega) (by omega)) rfl rfl rfl ?_
                        refine gq (y_move (v := .int _ _) rfl) rfl rfl rfl ?_
                        refine gq (y_assign (v := .string _) rfl) rfl rfl rfl ?_
                        refine gq (y_assign (v := .int _ _) rfl) rfl rfl rfl ?_
                        refine gqs_nil ?_
                        refine hN31 _ _ ?_
                        refine gfrom [(2, .string _), (3, .int _ _)] ⟨rfl, rfl, trivial⟩ fun σ => ?_
                        refine gret fun w1 hM => ?_
                        refine ⟨_, res2 rfl (rt (v := .string _) rfl) (rt (v := .int _ _) rfl), ?_⟩
                        rw [hat, hN]
                        exact ⟨by simp, weak_take (T' := [_, fr]) rfl _ hM⟩
                    · 
                      have hg98d := Decidable.not_not.1 (of_decide_eq_false hg98)
                      refine gop_off rfl rfl rfl rfl hg98 rfl rfl ?_
                      refine gop_off rfl rfl rfl rfl hg98 rfl rfl ?_
                      refine gop_off rfl rfl rfl rfl hg98 rfl rfl ?_
                      refine gop_off rfl rfl rfl rfl hg98 rfl rfl ?_
                      refine gop_off rfl rfl rfl rfl hg98 rfl rfl ?_
                      refine gop_off rfl rfl rfl rfl hg98 rfl rfl ?_
                      refine gop (y_pick_f (v := .bool _) rfl hg98 rfl) rfl rfl rfl ?_
                      refine gops_nil ?_
                      refine hN30 _ _ ?_
                      refine gfrom [(0, .pointer (some ⟨sg, 0, none⟩)), (4, .int _ _), (106, .bool _)] ⟨rfl, rfl, rfl, trivial⟩ fun σ => ?_
                      refine gcond (b := _) rfl (fun hc106 => ?_) (fun hc106 => ?_)
                      · 
                        cases hc106
                      · 
                        have hend : endW s j = k := by rw [← hks]; exact run_stop (fun h => decide_eq_false (by omega))
                        have hN : nextW s j = k := by
                          rw [nextW, hend, if_neg]
                          rintro ⟨e1, e2⟩
                          have h9 := end_gt e2 (decide_eq_true ⟨hsp e2, (hnp e2).1, (hnp e2).2⟩)
                          omega
                        refine gexit ?_
                        refine hN28 _ _ ?_
                        refine gfrom [(0, .pointer (some ⟨sg, 0, none⟩)), (4, .int _ _)] ⟨rfl, rfl, trivial⟩ fun σ => ?_
                        refine gseq fun N32 hN32 => ?_
                        refine greg_q (by kernel_rfl) (by kernel_rfl) ?_
                        refine gq (y_move (v := .pointer (some ⟨sg, 0, none⟩)) rfl) rfl rfl rfl ?_
                        refine gq (y_nilCheck rfl) rfl rfl rfl ?_
                        refine gq (y_fieldAddr_box fa65_0 rfl) rfl rfl rfl ?_
                        refine gq (y_load Tryd.isAgg9 rfl (cell_box 0 rfl rfl)) rfl rfl rfl ?_
                        refine gq (y_move (v := .pointer (some ⟨sg, 0, none⟩)) rfl) rfl rfl rfl ?_
                        refine gq (y_nilCheck rfl) rfl rfl rfl ?_
                        refine gq (y_fieldAddr_box fa65_1 rfl) rfl rfl rfl ?_
                        refine gq (y_load Tryd.isAgg3 rfl (cell_box 0 rfl rfl)) rfl rfl rfl ?_
                        refine gq (y_move (v := .int _ _) rfl) rfl rfl rfl ?_
                        refine gq (y_strslice Tryd.underlying9 rfl rfl rfl (by omega) (by omega) (by omega)) rfl rfl rfl ?_
                        refine gq (y_move (v := .int _ _) rfl) rfl rfl rfl ?_
                        refine gq (y_assign (v := .string _) rfl) rfl rfl rfl ?_
                        refine gq (y_assign (v := .int _ _) rfl) rfl rfl rfl ?_
                        refine gqs_nil ?_
                        refine hN32 _ _ ?_
                        refine gfrom [(2, .string _), (3, .int _ _)] ⟨rfl, rfl, trivial⟩ fun σ => ?_
                        refine gret fun w1 hM => ?_
                        refine ⟨_, res2 rfl (rt (v := .string _) rfl) (rt (v := .int _ _) rfl), ?_⟩
                        rw [hat, hN]
                        exact ⟨by simp, weak_take (T' := [_, fr]) rfl _ hM⟩
                  · 
                    have hg89d := Decidable.not_not.1 (of_decide_eq_false hg89)
                    refine gop_off rfl rfl rfl rfl hg89 rfl rfl ?_
                    refine gop_off rfl rfl rfl rfl hg89 rfl rfl ?_
                    refine gop_off rfl rfl rfl rfl hg89 rfl rfl ?_
                    refine gop_off rfl rfl rfl rfl hg89 rfl rfl ?_
                    refine gop_off rfl rfl rfl rfl hg89 rfl rfl ?_
                    refine gop_off rfl rfl rfl rfl hg89 rfl rfl ?_
                    refine gop (y_pick_f (v := .bool _) rfl hg89 rfl) rfl rfl rfl ?_
                    refine gop (y_move (v := .bool _) rfl) rfl rfl rfl ?_
                    refine gop_off rfl rfl rfl rfl rfl rfl rfl ?_
                    refine gop_off rfl rfl rfl rfl rfl rfl rfl ?_
                    refine gop_off rfl rfl rfl rfl rfl rfl rfl ?_
                    refine gop_off rfl rfl rfl rfl rfl rfl rfl ?_
                    refine gop_off rfl rfl rfl rfl rfl rfl rfl ?_
                    refine gop_off rfl rfl rfl rfl rfl rfl rfl ?_
                    refine gop_off rfl rfl rfl rfl rfl rfl rfl ?_
                    refine gop (y_pick_f (v := .bool _) rfl rfl rfl) rfl rfl rfl ?_
                    refine gops_nil ?_
                    refine hN30 _ _ ?_
                    refine gfrom [(0, .pointer (some ⟨sg, 0, none⟩)), (4, .int _ _), (106, .bool _)] ⟨rfl, rfl, rfl, trivial⟩ fun σ => ?_
                    refine gcond (b := _) rfl (fun hc106 => ?_) (fun hc106 => ?_)
                    · 
                      cases hc106
                    · 
                      have hend : endW s j = k := by rw [← hks]; exact run_stop (fun h => decide_eq_false (by omega))
                      have hN : nextW s j = k := by
                        rw [nextW, hend, if_neg]
                        rintro ⟨e1, e2⟩
                        have h9 := end_gt e2 (decide_eq_true ⟨hsp e2, (hnp e2).1, (hnp e2).2⟩)
                        omega
                      refine gexit ?_
                      refine hN28 _ _ ?_
                      refine gfrom [(0, .pointer (some ⟨sg, 0, none⟩)), (4, .int _ _)] ⟨rfl, rfl, trivial⟩ fun σ => ?_
                      refine gseq fun N33 hN33 => ?_
                      refine greg_q (by kernel_rfl) (by kernel_rfl) ?_
                      refine gq (y_move (v := .pointer (some ⟨sg, 0, none⟩)) rfl) rfl rfl rfl ?_
                      refine gq (y_nilCheck rfl) rfl rfl rfl ?_
                      refine gq (y_fieldAddr_box fa65_0 rfl) rfl rfl rfl ?_
                      refine gq (y_load Tryd.isAgg9 rfl (cell_box 0 rfl rfl)) rfl rfl rfl ?_
                      refine gq (y_move (v := .pointer (some ⟨sg, 0, none⟩)) rfl) rfl rfl rfl ?_
                      refine gq (y_nilCheck rfl) rfl rfl rfl ?_
                      refine gq (y_fieldAddr_box fa65_1 rfl) rfl rfl rfl ?_
                      refine gq (y_load Tryd.isAgg3 rfl (cell_box 0 rfl rfl)) rfl rfl rfl ?_
                      refine gq (y_move (v := .int _ _) rfl) rfl rfl rfl ?_
                      refine gq (y_strslice Tryd.underlying9 rfl rfl rfl (by omega) (by omega) (by omega)) rfl rfl rfl ?_
                      refine gq (y_move (v := .int _ _) rfl) rfl rfl rfl ?_
                      refine gq (y_assign (v := .string _) rfl) rfl rfl rfl ?_
                      refine gq (y_assign (v := .int _ _) rfl) rfl rfl rfl ?_
                      refine gqs_nil ?_
                      refine hN33 _ _ ?_
                      refine gfrom [(2, .string _), (3, .int _ _)] ⟨rfl, rfl, trivial⟩ fun σ => ?_
                      refine gret fun w1 hM => ?_
                      refine ⟨_, res2 rfl (rt (v := .string _) rfl) (rt (v := .int _ _) rfl), ?_⟩
                      rw [hat, hN]
                      exact ⟨by simp, weak_take (T' := [_, fr]) rfl _ hM⟩
                · 
                  have hg80d := of_decide_eq_false hg80
                  refine gop_off rfl rfl rfl rfl hg80 rfl rfl ?_
                  refine gop_off rfl rfl rfl rfl hg80 rfl rfl ?_
                  refine gop_off rfl rfl rfl rfl hg80 rfl rfl ?_
                  refine gop_off rfl rfl rfl rfl hg80 rfl rfl ?_
                  refine gop_off rfl rfl rfl rfl hg80 rfl rfl ?_
                  refine gop_off rfl rfl rfl rfl hg80 rfl rfl ?_
                  refine gop (y_pick_f (v := .bool _) rfl hg80 rfl) rfl rfl rfl ?_
                  refine gop (y_move (v := .bool _) rfl) rfl rfl rfl ?_
                  refine gop_off rfl rfl rfl rfl rfl rfl rfl ?_
                  refine gop_off rfl rfl rfl rfl rfl rfl rfl ?_
                  refine gop_off rfl rfl rfl rfl rfl rfl rfl ?_
                  refine gop_off rfl rfl rfl rfl rfl rfl rfl ?_
                  refine gop_off rfl rfl rfl rfl rfl rfl rfl ?_
                  refine gop_off rfl rfl rfl rfl rfl rfl rfl ?_
                  refine gop_off rfl rfl rfl rfl rfl rfl rfl ?_
                  refine gop (y_pick_f (v := .bool _) rfl rfl rfl) rfl rfl rfl ?_
                  refine gop (y_move (v := .bool _) rfl) rfl rfl rfl ?_
                  refine gop_off rfl rfl rfl rfl rfl rfl rfl ?_
                  refine gop_off rfl rfl rfl rfl rfl rfl rfl ?_
                  refine gop_off rfl rfl rfl rfl rfl rfl rfl ?_
                  refine gop_off rfl rfl rfl rfl rfl rfl rfl ?_
                  refine gop_off rfl rfl rfl rfl rfl rfl rfl ?_
                  refine gop_off rfl rfl rfl rfl rfl rfl rfl ?_
                  refine gop_off rfl rfl rfl rfl rfl rfl rfl ?_
                  refine gop (y_pick_f (v := .bool _) rfl rfl rfl) rfl rfl rfl ?_
                  refine gops_nil ?_
                  refine hN30 _ _ ?_
                  refine gfrom [(0, .pointer (some ⟨sg, 0, none⟩)), (4, .int _ _), (106, .bool _)] ⟨rfl, rfl, rfl, trivial⟩ fun σ => ?_
                  refine gcond (b := _) rfl (fun hc106 => ?_) (fun hc106 => ?_)
                  · 
                    cases hc106
                  · 
                    have hend : endW s j = k := by rw [← hks]; exact run_stop (fun h => decide_eq_false (by omega))
                    have hN : nextW s j = k := by
                      rw [nextW, hend, if_neg]
                      rintro ⟨e1, e2⟩
                      have h9 := end_gt e2 (decide_eq_true ⟨hsp e2, (hnp e2).1, (hnp e2).2⟩)
                      omega
                    refine gexit ?_
                    refine hN28 _ _ ?_
                    refine gfrom [(0, .pointer (some ⟨sg, 0, none⟩)), (4, .int _ _)] ⟨rfl, rfl, trivial⟩ fun σ => ?_
                    refine gseq fun N34 hN34 => ?_
                    refine greg_q (by kernel_rfl) (by kernel_rfl) ?_
                    refine gq (y_move (v := .pointer (some ⟨sg, 0, none⟩)) rfl) rfl rfl rfl ?_
                    refine gq (y_nilCheck rfl) rfl rfl rfl ?_
                    refine gq (y_fieldAddr_box fa65_0 rfl) rfl rfl rfl ?_
                    refine gq (y_load Tryd.isAgg9 rfl (cell_box 0 rfl rfl)) rfl rfl rfl ?_
                    refine gq (y_move (v := .pointer (some ⟨sg, 0, none⟩)) rfl) rfl rfl rfl ?_
                    refine gq (y_nilCheck rfl) rfl rfl rfl ?_
                    refine gq (y_fieldAddr_box fa65_1 rfl) rfl rfl rfl ?_
                    refine gq (y_load Tryd.isAgg3 rfl (cell_box 0 rfl rfl)) rfl rfl rfl ?_
                    refine gq (y_move (v := .int _ _) rfl) rfl rfl rfl ?_
                    refine gq (y_strslice Tryd.underlying9 rfl rfl rfl (by omega) (by omega) (by omega)) rfl rfl rfl ?_
                    refine gq (y_move (v := .int _ _) rfl) rfl rfl rfl ?_
                    refine gq (y_assign (v := .string _) rfl) rfl rfl rfl ?_
                    refine gq (y_assign (v := .int _ _) rfl) rfl rfl rfl ?_
                    refine gqs_nil ?_
                    refine hN34 _ _ ?_
                    refine gfrom [(2, .string _), (3, .int _ _)] ⟨rfl, rfl, trivial⟩ fun σ => ?_
                    refine gret fun w1 hM => ?_
                    refine ⟨_, res2 rfl (rt (v := .string _) rfl) (rt (v := .int _ _) rfl), ?_⟩
                    rw [hat, hN]
                    exact ⟨by simp, weak_take (T' := [_, fr]) rfl _ hM⟩
          · 
            have hg53d := of_decide_eq_true hg53
            refine gop_off rfl rfl rfl rfl hg53 rfl rfl ?_
            refine gop_off rfl rfl rfl rfl hg53 rfl rfl ?_
            refine gop_off rfl rfl rfl rfl hg53 rfl rfl ?_
            refine gop_off rfl rfl rfl rfl hg53 rfl rfl ?_
            refine gop_off rfl rfl rfl rfl hg53 rfl rfl ?_
            refine gop_off rfl rfl rfl rfl hg53 rfl rfl ?_
            refine gop_on rfl rfl rfl rfl hg45 ?_
            refine gop (y_bare (y_pick_t (v := .bool _) rfl hg53 rfl)) rfl rfl rfl ?_
            refine gop (y_pick_t (v := .bool _) rfl hg45 rfl) rfl rfl rfl ?_
            refine gops_nil ?_
            refine hN26 _ _ ?_
            refine gfrom [(0, .pointer (some ⟨sg, 0, none⟩)), (4, .int _ _), (62, .bool _)] ⟨rfl, rfl, rfl, trivial⟩ fun σ => ?_
            refine gcond (b := _) rfl (fun hc62 => ?_) (fun hc62 => ?_)
            · 
              have hN : nextW s j = j + 1 := by rw [nextW, show endW s j = j from run_stop (fun _ => decide_eq_false (by omega)), if_pos (by omega)]
              refine gseq fun N35 hN35 => ?_
              refine greg ?_
              refine gop (y_move (v := .pointer (some ⟨sg, 0, none⟩)) rfl) rfl rfl rfl ?_
              refine gop (y_nilCheck rfl) rfl rfl rfl ?_
              refine gop (y_fieldAddr_box fa65_0 rfl) rfl rfl rfl ?_
              refine gop (y_load Tryd.isAgg9 rfl (cell_box 0 rfl rfl)) rfl rfl rfl ?_
              refine gop (y_move (v := .int _ _) rfl) rfl rfl rfl ?_
              refine gop (y_move (v := .int _ _) rfl) rfl rfl rfl ?_
              refine gop (y_add rfl rfl ⟨by omega, by omega⟩) rfl rfl rfl ?_
              refine gop (y_strslice Tryd.underlying9 rfl rfl rfl (by omega) (by omega) (by omega)) rfl rfl rfl ?_
              refine gop (y_move (v := .int _ _) rfl) rfl rfl rfl ?_
              refine gop (y_add rfl rfl ⟨by omega, by omega⟩) rfl rfl rfl ?_
              refine gop (y_assign (v := .string _) rfl) rfl rfl rfl ?_
              refine gop (y_assign (v := .int _ _) rfl) rfl rfl rfl ?_
              refine gops_nil ?_
              refine hN35 _ _ ?_
              refine gfrom [(2, .string _), (3, .int _ _)] ⟨rfl, rfl, trivial⟩ fun σ => ?_
              refine gret fun w1 hM => ?_
              refine ⟨_, res2 rfl (rt (v := .string _) rfl) (rt (v := .int _ _) rfl), ?_⟩
              rw [hat, hN]
              exact ⟨by simp, weak_take (T' := [_, fr]) rfl _ hM⟩
            · 
              cases hc62
        · 
          have hg45d := of_decide_eq_false hg45
          refine gop_off rfl rfl rfl rfl hg45 rfl rfl ?_
          refine gop_off rfl rfl rfl rfl hg45 rfl rfl ?_
          refine gop_off rfl rfl rfl rfl hg45 rfl rfl ?_
          refine gop_off rfl rfl rfl rfl hg45 rfl rfl ?_
          refine gop_off rfl rfl rfl rfl hg45 rfl rfl ?_
          refine gop_off rfl rfl rfl rfl hg45 rfl rfl ?_
          refine gop_off rfl rfl rfl rfl hg45 rfl rfl ?_
          refine gop_offu rfl rfl rfl rfl rfl rfl ?_
          refine gop_offu rfl rfl rfl rfl rfl rfl ?_
          refine gop_offu rfl rfl rfl rfl rfl rfl ?_
          refine gop_offu rfl rfl rfl rfl rfl rfl ?_
          refine gop_offu rfl rfl rfl rfl rfl rfl ?_
          refine gop_offu rfl rfl rfl rfl rfl rfl ?_
          refine gop_offu rfl rfl rfl rfl rfl rfl ?_
          refine gop_off rfl rfl rfl rfl hg45 rfl rfl ?_
          refine gop (y_pick_f (v := .bool _) rfl hg45 rfl) rfl rfl rfl ?_
          refine gops_nil ?_
          refine hN26 _ _ ?_
          refine gfrom [(0, .pointer (some ⟨sg, 0, none⟩)), (4, .int _ _), (62, .bool _)] ⟨rfl, rfl, rfl, trivial⟩ fun σ => ?_
          refine gcond (b := _) rfl (fun hc62 => ?_) (fun hc62 => ?_)
          · 
            cases hc62
          · 
            have hnp : j < s.size → byteAt s j ≠ 40 ∧ byteAt s j ≠ 41 := fun h => by omega
            refine gskip ?_
            refine hN25 _ _ ?_
            refine gfrom [(0, .pointer (some ⟨sg, 0, none⟩)), (4, .int _ _)] ⟨rfl, rfl, trivial⟩ fun σ => ?_
            refine gseq fun N36 hN36 => ?_
            refine gblock ?_
            refine gfrom2 [(4, .int _ _)] [(0, .pointer (some ⟨sg, 0, none⟩))] ⟨rfl, trivial⟩ ⟨rfl, trivial⟩ fun σ => ?_
            refine gloop2 (G := Nat) (fun k => k ≤ s.size ∧ endW s k = endW s j ∧ j ≤ k) (fun k => s.size - k) (fun k => [(4, .int .i64 (k : Int))]) (fun k => []) (j) ?h0 ⟨rfl, trivial⟩ ⟨rfl, trivial⟩ rfl ?round
            case h0 => exact ⟨hj, rfl, Nat.le_refl _⟩
            case round =>
              intro k hφ σ
              obtain ⟨hk, hks, hjk⟩ := hφ
              refine gseq fun N37 hN37 => ?_
              refine gseq fun N38 hN38 => ?_
              refine greg ?_
              refine gop (y_move (v := .int _ _) rfl) rfl rfl rfl ?_
              refine gop (y_move (v := .pointer (some ⟨sg, 0, none⟩)) rfl) rfl rfl rfl ?_
              refine gop (y_nilCheck rfl) rfl rfl rfl ?_
              refine gop (y_fieldAddr_box fa65_0 rfl) rfl rfl rfl ?_
              refine gop (y_load Tryd.isAgg9 rfl (cell_box 0 rfl rfl)) rfl rfl rfl ?_
              refine gop (y_lens Tryd.underlying9 rfl) rfl rfl rfl ?_
              refine gop (y_lss rfl rfl) rfl rfl rfl ?_
              refine gop (y_move (v := .bool _) rfl) rfl rfl rfl ?_
              refine gop_if (want := true) rfl rfl rfl rfl rfl rfl (fun hg80 => ?_) (fun hg80 => ?_)
              · 
                have hg80d := of_decide_eq_true hg80
                refine gop (y_bare (y_move (v := .pointer (some ⟨sg, 0, none⟩)) rfl)) rfl rfl rfl ?_
                refine gop_on rfl rfl rfl rfl hg80 ?_
                refine gop (y_bare (y_nilCheck rfl)) rfl rfl rfl ?_
                refine gop_on rfl rfl rfl rfl hg80 ?_
                refine gop (y_bare (y_fieldAddr_box fa65_0 rfl)) rfl rfl rfl ?_
                refine gop_on rfl rfl rfl rfl hg80 ?_
                refine gop (y_bare (y_load Tryd.isAgg9 rfl (cell_box 0 rfl rfl))) rfl rfl rfl ?_
                refine gop_on rfl rfl rfl rfl hg80 ?_
                refine gop (y_bare (y_move (v := .int _ _) rfl)) rfl rfl rfl ?_
                refine gop_on rfl rfl rfl rfl hg80 ?_
                refine gop (y_bare (y_stridx (m := k) Tryd.underlying9 rfl rfl (by omega) (by omega) (by omega))) rfl rfl rfl ?_
                refine gop_on rfl rfl rfl rfl hg80 ?_
                refine gop (y_bare (y_neq rfl rfl)) rfl rfl rfl ?_
                refine gop (y_pick_t (v := .bool _) rfl hg80 rfl) rfl rfl rfl ?_
                refine gop (y_move (v := .bool _) rfl) rfl rfl rfl ?_
                refine gop_if (want := true) rfl rfl rfl rfl rfl rfl (fun hg89 => ?_) (fun hg89 => ?_)
                · 
                  have hg89d := of_decide_eq_true hg89
                  refine gop (y_bare (y_move (v := .pointer (some ⟨sg, 0, none⟩)) rfl)) rfl rfl rfl ?_
                  refine gop_on rfl rfl rfl rfl hg89 ?_
                  refine gop (y_bare (y_nilCheck rfl)) rfl rfl rfl ?_
                  refine gop_on rfl rfl rfl rfl hg89 ?_
                  refine gop (y_bare (y_fieldAddr_box fa65_0 rfl)) rfl rfl rfl ?_
                  refine gop_on rfl rfl rfl rfl hg89 ?_
                  refine gop (y_bare (y_load Tryd.isAgg9 rfl (cell_box 0 rfl rfl))) rfl rfl rfl ?_
                  refine gop_on rfl rfl rfl rfl hg89 ?_
                  refine gop (y_bare (y_move (v := .int _ _) rfl)) rfl rfl rfl ?_
                  refine gop_on rfl rfl rfl rfl hg89 ?_
                  refine gop (y_bare (y_stridx (m := k) Tryd.underlying9 rfl rfl (by omega) (by omega) (by omega))) rfl rfl rfl ?_
                  refine gop_on rfl rfl rfl rfl hg89 ?_
                  refine gop (y_bare (y_neq rfl rfl)) rfl rfl rfl ?_
                  refine gop (y_pick_t (v := .bool _) rfl hg89 rfl) rfl rfl rfl ?_
                  refine gop (y_move (v := .bool _) rfl) rfl rfl rfl ?_
                  refine gop_if (want := true) rfl rfl rfl rfl rfl rfl (fun hg98 => ?_) (fun hg98 => ?_)
                  · 
                    have hg98d := of_decide_eq_true hg98
                    refine gop (y_bare (y_move (v := .pointer (some ⟨sg, 0, none⟩)) rfl)) rfl rfl rfl ?_
                    refine gop_on rfl rfl rfl rfl hg98 ?_
                    refine gop (y_bare (y_nilCheck rfl)) rfl rfl rfl ?_
                    refine gop_on rfl rfl rfl rfl hg98 ?_
                    refine gop (y_bare (y_fieldAddr_box fa65_0 rfl)) rfl rfl rfl ?_
                    refine gop_on rfl rfl rfl rfl hg98 ?_
                    refine gop (y_bare (y_load Tryd.isAgg9 rfl (cell_box 0 rfl rfl))) rfl rfl rfl ?_
                    refine gop_on rfl rfl rfl rfl hg98 ?_
                    refine gop (y_bare (y_move (v := .int _ _) rfl)) rfl rfl rfl ?_
                    refine gop_on rfl rfl rfl rfl hg98 ?_
                    refine gop (y_bare (y_stridx (m := k) Tryd.underlying9 rfl rfl (by omega) (by omega) (by omega))) rfl rfl rfl ?_
                    refine gop_on rfl rfl rfl rfl hg98 ?_
                    refine gop (y_bare (y_neq rfl rfl)) rfl rfl rfl ?_
                    refine gop (y_pick_t (v := .bool _) rfl hg98 rfl) rfl rfl rfl ?_
                    refine gops_nil ?_
                    refine hN38 _ _ ?_
                    refine gfrom [(0, .pointer (some ⟨sg, 0, none⟩)), (4, .int _ _), (106, .bool _)] ⟨rfl, rfl, rfl, trivial⟩ fun σ => ?_
                    refine gcond (b := _) rfl (fun hc106 => ?_) (fun hc106 => ?_)
                    · 
                      replace hc106 := of_decide_eq_true hc106
                      have hk1 : k < s.size := by omega
                      have hw : woB s k = true := decide_eq_true (by omega)
                      refine gskip ?_
                      refine hN37 _ _ ?_
                      refine gfrom [(0, .pointer (some ⟨sg, 0, none⟩)), (4, .int _ _)] ⟨rfl, rfl, trivial⟩ fun σ => ?_
                      refine gblock ?_
                      refine greg ?_
                      refine gop (y_move (v := .int _ _) rfl) rfl rfl rfl ?_
                      refine gop (y_add rfl rfl ⟨by omega, by omega⟩) rfl rfl rfl ?_
                      refine gop (y_assign (v := .int _ _) rfl) rfl rfl rfl ?_
                      refine gops_nil ?_
                      refine gnext2 (k + 1) (by omega) (⟨by show k + 1 ≤ _; omega, by rw [← hks]; exact (run_step hk1 hw).symm, by omega⟩) ⟨rfl, trivial⟩ ⟨rfl, trivial⟩ ⟨_, rfl⟩
                    · 
                      replace hc106 := Decidable.not_not.1 (of_decide_eq_false hc106)
                      have hend : endW s j = k := by rw [← hks]; exact run_stop (fun h => decide_eq_false (by omega))
                      have hN : nextW s j = k := by
                        rw [nextW, hend, if_neg]
                        rintro ⟨e1, e2⟩
                        have h9 := end_gt e2 (decide_eq_true ⟨hsp e2, (hnp e2).1, (hnp e2).2⟩)
                        omega
                      refine gexit ?_
                      refine hN36 _ _ ?_
                      refine gfrom [(0, .pointer (some ⟨sg, 0, none⟩)), (4, .int _ _)] ⟨rfl, rfl, trivial⟩ fun σ => ?_
                      refine gseq fun N39 hN39 => ?_
                      refine greg_q (by kernel_rfl) (by kernel_rfl) ?_
                      refine gq (y_move (v := .pointer (some ⟨sg, 0, none⟩)) rfl) rfl rfl rfl ?_
                      refine gq (y_nilCheck rfl) rfl rfl rfl ?_
                      refine gq (y_fieldAddr_box fa65_0 rfl) rfl rfl rfl ?_
                      refine gq (y_load Tryd.isAgg9 rfl (cell_box 0 rfl rfl)) rfl rfl rfl ?_
                      refine gq (y_move (v := .pointer (some ⟨sg, 0, none⟩)) rfl) rfl rfl rfl ?_
                      refine gq (y_nilCheck rfl) rfl rfl rfl ?_
                      refine gq (y_fieldAddr_box fa65_1 rfl) rfl rfl rfl ?_
                      refine gq (y_load Tryd.isAgg3 rfl (cell_box 0 rfl rfl)) rfl rfl rfl ?_
                      refine gq (y_move (v := .int _ _) rfl) rfl rfl rfl ?_
                      refine gq (y_strslice Tryd.underlying9 rfl rfl rfl (by omega) (by omega) (by omega)) rfl rfl rfl ?_
                      refine gq (y_move (v := .int _ _) rfl) rfl rfl rfl ?_
                      refine gq (y_assign (v := .string _) rfl) rfl rfl rfl ?_
                      refine gq (y_assign (v := .int _ _) rfl) rfl rfl rfl ?_
                      refine gqs_nil ?_
                      refine hN39 _ _ ?_
                      refine gfrom [(2, .string _), (3, .int _ _)] ⟨rfl, rfl, trivial⟩ fun σ => ?_
                      refine gret fun w1 hM => ?_
                      refine ⟨_, res2 rfl (rt (v := .string _) rfl) (rt (v := .int _ _) rfl), ?_⟩
                      rw [hat, hN]
                      exact ⟨by simp, weak_take (T' := [_, fr]) rfl _ hM⟩
                  · 
                    have hg98d := Decidable.not_not.1 (of_decide_eq_false hg98)
                    refine gop_off rfl rfl rfl rfl hg98 rfl rfl ?_
                    refine gop_off rfl rfl rfl rfl hg98 rfl rfl ?_
                    refine gop_off rfl rfl rfl rfl hg98 rfl rfl ?_
                    refine gop_off rfl rfl rfl rfl hg98 rfl rfl ?_
                    refine gop_off rfl rfl rfl rfl hg98 rfl rfl ?_
                    refine gop_off rfl rfl rfl rfl hg98 rfl rfl ?_
                    refine gop (y_pick_f (v := .bool _) rfl hg98 rfl) rfl rfl rfl ?_
                    refine gops_nil ?_
                    refine hN38 _ _ ?_
                    refine gfrom [(0, .pointer (some ⟨sg, 0, none⟩)), (4, .int _ _), (106, .bool _)] ⟨rfl, rfl, rfl, trivial⟩ fun σ => ?_
                    refine gcond (b := _) rfl (fun hc106 => ?_) (fun hc106 => ?_)
                    · 
                      cases hc106
                    · 
                      have hend : endW s j = k := by rw [← hks]; exact run_stop (fun h => decide_eq_false (by omega))
                      have hN : nextW s j = k := by
                        rw [nextW, hend, if_neg]
                        rintro ⟨e1, e2⟩
                        have h9 := end_gt e2 (decide_eq_true ⟨hsp e2, (hnp e2).1, (hnp e2).2⟩)
                        omega
                      refine gexit ?_
                      refine hN36 _ _ ?_
                      refine gfrom [(0, .pointer (some ⟨sg, 0, none⟩)), (4, .int _ _)] ⟨rfl, rfl, trivial⟩ fun σ => ?_
                      refine gseq fun N40 hN40 => ?_
                      refine greg_q (by kernel_rfl) (by kernel_rfl) ?_
                      refine gq (y_move (v := .pointer (some ⟨sg, 0, none⟩)) rfl) rfl rfl rfl ?_
                      refine gq (y_nilCheck rfl) rfl rfl rfl ?_
                      refine gq (y_fieldAddr_box fa65_0 rfl) rfl rfl rfl ?_
                      refine gq (y_load Tryd.isAgg9 rfl (cell_box 0 rfl rfl)) rfl rfl rfl ?_
                      refine gq (y_move (v := .pointer (some ⟨sg, 0, none⟩)) rfl) rfl rfl rfl ?_
                      refine gq (y_nilCheck rfl) rfl rfl rfl ?_
                      refine gq (y_fieldAddr_box fa65_1 rfl) rfl rfl rfl ?_
                      refine gq (y_load Tryd.isAgg3 rfl (cell_box 0 rfl rfl)) rfl rfl rfl ?_
                      refine gq (y_move (v := .int _ _) rfl) rfl rfl rfl ?_
                      refine gq (y_strslice Tryd.underlying9 rfl rfl rfl (by omega) (by omega) (by omega)) rfl rfl rfl ?_
                      refine gq (y_move (v := .int _ _) rfl) rfl rfl rfl ?_
                      refine gq (y_assign (v := .string _) rfl) rfl rfl rfl ?_
                      refine gq (y_assign (v := .int _ _) rfl) rfl rfl rfl ?_
                      refine gqs_nil ?_
                      refine hN40 _ _ ?_
                      refine gfrom [(2, .string _), (3, .int _ _)] ⟨rfl, rfl, trivial⟩ fun σ => ?_
                      refine gret fun w1 hM => ?_
                      refine ⟨_, res2 rfl (rt (v := .string _) rfl) (rt (v := .int _ _) rfl), ?_⟩
                      rw [hat, hN]
                      exact ⟨by simp, weak_take (T' := [_, fr]) rfl _ hM⟩
                · 
                  have hg89d := Decidable.not_not.1 (of_decide_eq_false hg89)
                  refine gop_off rfl rfl rfl rfl hg89 rfl rfl ?_
                  refine gop_off rfl rfl rfl rfl hg89 rfl rfl ?_
                  refine gop_off rfl rfl rfl rfl hg89 rfl rfl ?_
                  refine gop_off rfl rfl rfl rfl hg89 rfl rfl ?_
                  refine gop_off rfl rfl rfl rfl hg89 rfl rfl ?_
                  refine gop_off rfl rfl rfl rfl hg89 rfl rfl ?_
                  refine gop (y_pick_f (v := .bool _) rfl hg89 rfl) rfl rfl rfl ?_
                  refine gop (y_move (v := .bool _) rfl) rfl rfl rfl ?_
                  refine gop_off rfl rfl rfl rfl rfl rfl rfl ?_
                  refine gop_off rfl rfl rfl rfl rfl rfl rfl ?_
                  refine gop_off rfl rfl rfl rfl rfl rfl rfl ?_
                  refine gop_off rfl rfl rfl rfl rfl rfl rfl ?_
                  refine gop_off rfl rfl rfl rfl rfl rfl rfl ?_
                  refine gop_off rfl rfl rfl rfl rfl rfl rfl ?_
                  refine gop_off rfl rfl rfl rfl rfl rfl rfl ?_
                  refine gop (y_pick_f (v := .bool _) rfl rfl rfl) rfl rfl rfl ?_
                  refine gops_nil ?_
                  refine hN38 _ _ ?_
                  refine gfrom [(0, .pointer (some ⟨sg, 0, none⟩)), (4, .int _ _), (106, .bool _)] ⟨rfl, rfl, rfl, trivial⟩ fun σ => ?_
                  refine gcond (b := _) rfl (fun hc106 => ?_) (fun hc106 => ?_)
                  · 
                    cases hc106
                  · 
                    have hend : endW s j = k := by rw [← hks]; exact run_stop (fun h => decide_eq_false (by omega))
                    have hN : nextW s j = k := by
                      rw [nextW, hend, if_neg]
                      rintro ⟨e1, e2⟩
                      have h9 := end_gt e2 (decide_eq_true ⟨hsp e2, (hnp e2).1, (hnp e2).2⟩)
                      omega
                    refine gexit ?_
                    refine hN36 _ _ ?_
                    refine gfrom [(0, .pointer (some ⟨sg, 0, none⟩)), (4, .int _ _)] ⟨rfl, rfl, trivial⟩ fun σ => ?_
                    refine gseq fun N41 hN41 => ?_
                    refine greg_q (by kernel_rfl) (by kernel_rfl) ?_
                    refine gq (y_move (v := .pointer (some ⟨sg, 0, none⟩)) rfl) rfl rfl rfl ?_
                    refine gq (y_nilCheck rfl) rfl rfl rfl ?_
                    refine gq (y_fieldAddr_box fa65_0 rfl) rfl rfl rfl ?_
                    refine gq (y_load Tryd.isAgg9 rfl (cell_box 0 rfl rfl)) rfl rfl rfl ?_
                    refine gq (y_move (v := .pointer (some ⟨sg, 0, none⟩)) rfl) rfl rfl rfl ?_
                    refine gq (y_nilCheck rfl) rfl rfl rfl ?_
                    refine gq (y_fieldAddr_box fa65_1 rfl) rfl rfl rfl ?_
                    refine gq (y_load Tryd.isAgg3 rfl (cell_box 0 rfl rfl)) rfl rfl rfl ?_
                    refine gq (y_move (v := .int _ _) rfl) rfl rfl rfl ?_
                    refine gq (y_strslice Tryd.underlying9 rfl rfl rfl (by omega) (by omega) (by omega)) rfl rfl rfl ?_
                    refine gq (y_move (v := .int _ _) rfl) rfl rfl rfl ?_
                    refine gq (y_assign (v := .string _) rfl) rfl rfl rfl ?_
                    refine gq (y_assign (v := .int _ _) rfl) rfl rfl rfl ?_
                    refine gqs_nil ?_
                    refine hN41 _ _ ?_
                    refine gfrom [(2, .string _), (3, .int _ _)] ⟨rfl, rfl, trivial⟩ fun σ => ?_
                    refine gret fun w1 hM => ?_
                    refine ⟨_, res2 rfl (rt (v := .string _) rfl) (rt (v := .int _ _) rfl), ?_⟩
                    rw [hat, hN]
                    exact ⟨by simp, weak_take (T' := [_, fr]) rfl _ hM⟩
              · 
                have hg80d := of_decide_eq_false hg80
                refine gop_off rfl rfl rfl rfl hg80 rfl rfl ?_
                refine gop_off rfl rfl rfl rfl hg80 rfl rfl ?_
                refine gop_off rfl rfl rfl rfl hg80 rfl rfl ?_
                refine gop_off rfl rfl rfl rfl hg80 rfl rfl ?_
                refine gop_off rfl rfl rfl rfl hg80 rfl rfl ?_
                refine gop_off rfl rfl rfl rfl hg80 rfl rfl ?_
                refine gop (y_pick_f (v := .bool _) rfl hg80 rfl) rfl rfl rfl ?_
                refine gop (y_move (v := .bool _) rfl) rfl rfl rfl ?_
                refine gop_off rfl rfl rfl rfl rfl rfl rfl ?_
                refine gop_off rfl rfl rfl rfl rfl rfl rfl ?_
                refine gop_off rfl rfl rfl rfl rfl rfl rfl ?_
                refine gop_off rfl rfl rfl rfl rfl rfl rfl ?_
                refine gop_off rfl rfl rfl rfl rfl rfl rfl ?_
                refine gop_off rfl rfl rfl rfl rfl rfl rfl ?_
                refine gop_off rfl rfl rfl rfl rfl rfl rfl ?_
                refine gop (y_pick_f (v := .bool _) rfl rfl rfl) rfl rfl rfl ?_
                refine gop (y_move (v := .bool _) rfl) rfl rfl rfl ?_
                refine gop_off rfl rfl rfl rfl rfl rfl rfl ?_
                refine gop_off rfl rfl rfl rfl rfl rfl rfl ?_
                refine gop_off rfl rfl rfl rfl rfl rfl rfl ?_
                refine gop_off rfl rfl rfl rfl rfl rfl rfl ?_
                refine gop_off rfl rfl rfl rfl rfl rfl rfl ?_
                refine gop_off rfl rfl rfl rfl rfl rfl rfl ?_
                refine gop_off rfl rfl rfl rfl rfl rfl rfl ?_
                refine gop (y_pick_f (v := .bool _) rfl rfl rfl) rfl rfl rfl ?_
                refine gops_nil ?_
                refine hN38 _ _ ?_
                refine gfrom [(0, .pointer (some ⟨sg, 0, none⟩)), (4, .int _ _), (106, .bool _)] ⟨rfl, rfl, rfl, trivial⟩ fun σ => ?_
                refine gcond (b := _) rfl (fun hc106 => ?_) (fun hc106 => ?_)
                · 
                  cases hc106
                · 
                  have hend : endW s j = k := by rw [← hks]; exact run_stop (fun h => decide_eq_false (by omega))
                  have hN : nextW s j = k := by
                    rw [nextW, hend, if_neg]
                    rintro ⟨e1, e2⟩
                    have h9 := end_gt e2 (decide_eq_true ⟨hsp e2, (hnp e2).1, (hnp e2).2⟩)
                    omega
                  refine gexit ?_
                  refine hN36 _ _ ?_
                  refine gfrom [(0, .pointer (some ⟨sg, 0, none⟩)), (4, .int _ _)] ⟨rfl, rfl, trivial⟩ fun σ => ?_
                  refine gseq fun N42 hN42 => ?_
                  refine greg_q (by kernel_rfl) (by kernel_rfl) ?_
                  refine gq (y_move (v := .pointer (some ⟨sg, 0, none⟩)) rfl) rfl rfl rfl ?_
                  refine gq (y_nilCheck rfl) rfl rfl rfl ?_
                  refine gq (y_fieldAddr_box fa65_0 rfl) rfl rfl rfl ?_
                  refine gq (y_load Tryd.isAgg9 rfl (cell_box 0 rfl rfl)) rfl rfl rfl ?_
                  refine gq (y_move (v := .pointer (some ⟨sg, 0, none⟩)) rfl) rfl rfl rfl ?_
                  refine gq (y_nilCheck rfl) rfl rfl rfl ?_
                  refine gq (y_fieldAddr_box fa65_1 rfl) rfl rfl rfl ?_
                  refine gq (y_load Tryd.isAgg3 rfl (cell_box 0 rfl rfl)) rfl rfl rfl ?_
                  refine gq (y_move (v := .int _ _) rfl) rfl rfl rfl ?_
                  refine gq (y_strslice Tryd.underlying9 rfl rfl rfl (by omega) (by omega) (by omega)) rfl rfl rfl ?_
                  refine gq (y_move (v := .int _ _) rfl) rfl rfl rfl ?_
                  refine gq (y_assign (v := .string _) rfl) rfl rfl rfl ?_
                  refine gq (y_assign (v := .int _ _) rfl) rfl rfl rfl ?_
                  refine gqs_nil ?_
                  refine hN42 _ _ ?_
                  refine gfrom [(2, .string _), (3, .int _ _)] ⟨rfl, rfl, trivial⟩ fun σ => ?_
                  refine gret fun w1 hM => ?_
                  refine ⟨_, res2 rfl (rt (v := .string _) rfl) (rt (v := .int _ _) rfl), ?_⟩
                  rw [hat, hN]
                  exact ⟨by simp, weak_take (T' := [_, fr]) rfl _ hM⟩
set_option maxHeartbeats 1000000 in
theorem refRank_any (w : World) (x : ByteArray) : Calls Tryd.prog 38 #[.string x] w fun e w' => e = .returned (.int .i64 (rankW x : Nat)) ∧ Below w.heap.size w w' := by
  refine gcalls Tryd.func38 rfl Tryd.ntmps38 (Nat.le_of_ble_eq_true rfl) ?_
  refine gfrom [(0, .string _)] ⟨rfl, trivial⟩ fun σ => ?_
  refine gseq fun N1 hN1 => ?_
  refine greg ?_
  refine gop (y_assign (v := .int _ _) rfl) rfl rfl rfl ?_
  refine gops_nil ?_
  refine hN1 _ _ ?_
  refine gfrom [(0, .string _)] ⟨rfl, trivial⟩ fun σ => ?_
  refine gseq fun N2 hN2 => ?_
  refine gseq fun N3 hN3 => ?_
  refine greg ?_
  refine gop (y_move (v := .string _) rfl) rfl rfl rfl ?_
  refine gop (y_eqls rfl rfl) rfl rfl rfl ?_
  refine gops_nil ?_
  refine hN3 _ _ ?_
  refine gfrom [(0, .string _), (4, .bool _)] ⟨rfl, rfl, trivial⟩ fun σ => ?_
  refine gcond (b := _) rfl (fun hc4 => ?_) (fun hc4 => ?_)
  · 
    rw [strEq_dec] at hc4
    have hr4 := of_decide_eq_true hc4
    refine gseq fun N4 hN4 => ?_
    refine greg ?_
    refine gop (y_assign (v := .int _ _) rfl) rfl rfl rfl ?_
    refine gops_nil ?_
    refine hN4 _ _ ?_
    refine gfrom [(2, .int _ _)] ⟨rfl, trivial⟩ fun σ => ?_
    refine gret fun w1 hM => ?_
    refine ⟨_, res1 rfl (rt (v := .int _ _) rfl), ?_⟩
    exact ⟨by rw [rankW, if_pos hr4]; rfl, hM.low⟩
  · 
    rw [strEq_dec] at hc4
    have hr4 := of_decide_eq_false hc4
    refine gskip ?_
    refine hN2 _ _ ?_
    refine gfrom [(0, .string _)] ⟨rfl, trivial⟩ fun σ => ?_
    refine gseq fun N5 hN5 => ?_
    refine gseq fun N6 hN6 => ?_
    refine greg ?_
    refine gop (y_move (v := .string _) rfl) rfl rfl rfl ?_
    refine gop (y_eqls rfl rfl) rfl rfl rfl ?_
    refine gops_nil ?_
    refine hN6 _ _ ?_
    refine gfrom [(0, .string _), (6, .bool _)] ⟨rfl, rfl, trivial⟩ fun σ => ?_
    refine gcond (b := _) rfl (fun hc6 => ?_) (fun hc6 => ?_)
    · 
      rw [strEq_dec] at hc6
      have hr6 := of_decide_eq_true hc6
      refine gseq fun N7 hN7 => ?_
      refine greg ?_
      refine gop (y_assign (v := .int _ _) rfl) rfl rfl rfl ?_
      refine gops_nil ?_
      refine hN7 _ _ ?_
      refine gfrom [(2, .int _ _)] ⟨rfl, trivial⟩ fun σ => ?_
      refine gret fun w1 hM => ?_
      refine ⟨_, res1 rfl (rt (v := .int _ _) rfl), ?_⟩
      exact ⟨by rw [rankW, if_neg hr4, if_pos hr6]; rfl, hM.low⟩
    · 
      rw [strEq_dec] at hc6
      have hr6 := of_decide_eq_false hc6
      refine gskip ?_
      refine hN5 _ _ ?_
      refine gfrom [(0, .string _)] ⟨rfl, trivial⟩ fun σ => ?_
      refine gseq fun N8 hN8 => ?_
      refine gseq fun N9 hN9 => ?_
      refine greg ?_
      refine gop (y_move (v := .string _) rfl) rfl rfl rfl ?_
      refine gop (y_eqls rfl rfl) rfl rfl rfl ?_
      refine gops_nil ?_
      refine hN9 _ _ ?_
      refine gfrom [(8, .bool _)] ⟨rfl, trivial⟩ fun σ => ?_
      refine gcond (b := _) rfl (fun hc8 => ?_) (fun hc8 => ?_)
      · 
        rw [strEq_dec] at hc8
        have hr8 := of_decide_eq_true hc8
        refine gseq fun N10 hN10 => ?_
        refine greg ?_
        refine gop (y_assign (v := .int _ _) rfl) rfl rfl rfl ?_
        refine gops_nil ?_
        refine hN10 _ _ ?_
        refine gfrom [(2, .int _ _)] ⟨rfl, trivial⟩ fun σ => ?_
        refine gret fun w1 hM => ?_
        refine ⟨_, res1 rfl (rt (v := .int _ _) rfl), ?_⟩
        exact ⟨by rw [rankW, if_neg hr4, if_neg hr6, if_pos hr8]; rfl, hM.low⟩
      · 
        rw [strEq_dec] at hc8
        have hr8 := of_decide_eq_false hc8
        refine gskip ?_
        refine hN8 _ _ ?_
        refine gfrom [] trivial fun σ => ?_
        refine gseq fun N11 hN11 => ?_
        refine greg ?_
        refine gop (y_assign (v := .int _ _) rfl) rfl rfl rfl ?_
        refine gops_nil ?_
        refine hN11 _ _ ?_
        refine gfrom [(2, .int _ _)] ⟨rfl, trivial⟩ fun σ => ?_
        refine gret fun w1 hM => ?_
        refine ⟨_, res1 rfl (rt (v := .int _ _) rfl), ?_⟩
        exact ⟨by rw [rankW, if_neg hr4, if_neg hr6, if_neg hr8]; rfl, hM.low⟩
end Go.Proofs.YtllblbkbglifjaaDoor
namespace Go.Proofs.YtllblbkbglifjaaDoor
open Go.RowKit Go.Cf
set_option maxRecDepth 10000
set_option maxHeartbeats 8000000 in
theorem refDecimal_any (w : World) (s : ByteArray) (hs : s.size ≤ 200) : Calls Tryd.prog 35 #[.string s] w fun e w' => e = .returned (.tuple #[.int .i64 (decN s), .bool (numV s).isSome]) ∧ Below w.heap.size w w' := by
  obtain ⟨D, hD⟩ : ∃ D, bodyD s.data.toList = D := ⟨_, rfl⟩
  have hDs : (baL D).size = D.length := baL_size D
  have hsl : s.data.toList.length = s.size := by rw [Array.length_toList]; rfl
  have hDl : D.length ≤ s.size := by
    rw [← hD, bodyD]
    split
    · rw [List.length_tail]; omega
    · omega
  have f1 : ((baL D).toList == (⟨#[]⟩ : ByteArray).toList) = decide (D = []) := by
    rw [strEq_dec]
    exact decide_eq_decide.2 ⟨fun h => baL_inj h, fun h => by rw [h]; rfl⟩
  have f2 : (!(s.toList == (⟨#[48]⟩ : ByteArray).toList)) = decide (s.data.toList ≠ [48]) := by
    rw [strEq_dec, ← decide_not]
    exact decide_eq_decide.2 (not_congr ⟨fun h => by rw [h], fun h => (baL_self s).symm.trans (by rw [h]; rfl)⟩)
  have f3 : D ≠ [] → (byteAt (baL D) 0 = 48 ↔ D.head? = some 48) := fun h => by
    cases D with
    | nil => exact absurd rfl h
    | cons x r =>
      rw [byte_baL (by simp)]
      simp only [List.getElem_cons_zero, List.head?_cons, Option.some.injEq]
      exact ⟨fun h => UInt8.toNat_inj.1 h, fun h => by rw [h]; rfl⟩
  refine gcalls Tryd.func35 rfl Tryd.ntmps35 (Nat.le_of_ble_eq_true rfl) ?_
  refine gfrom [(0, .string s)] ⟨rfl, trivial⟩ fun σ => ?_
  refine gseq fun N1 hN1 => ?_
  refine greg ?_
  refine gop (y_assign (v := .int _ _) rfl) rfl rfl rfl ?_
  refine gop (y_assign (v := .bool _) rfl) rfl rfl rfl ?_
  refine gops_nil ?_
  refine hN1 _ _ ?_
  refine gfrom [(0, .string s)] ⟨rfl, trivial⟩ fun σ => ?_
  refine gseq fun N2 hN2 => ?_
  refine greg ?_
  refine gop (y_move (v := .string s) rfl) rfl rfl rfl ?_
  refine gop (y_assign (v := .string s) rfl) rfl rfl rfl ?_
  refine gops_nil ?_
  refine hN2 _ _ ?_
  refine gfrom [(0, .string s), (4, .string s)] ⟨rfl, rfl, trivial⟩ fun σ => ?_
  refine gseq fun N3 hN3 => ?_
  refine gfrom [(0, .string s), (4, .string s)] ⟨rfl, rfl, trivial⟩ fun σ => ?_
  refine gcut3 (Lf := [(0, .string s)]) (G := Unit) (fun g => True) (fun g => [(4, .string (baL D))]) (fun g => []) ⟨rfl, trivial⟩ ?_ ?_
  ·
    refine gseq fun N4 hN4 => ?_
    refine greg ?_
    refine gop (y_move (v := .string s) rfl) rfl rfl rfl ?_
    refine gop (y_lens Tryd.underlying9 rfl) rfl rfl rfl ?_
    refine gop (y_gtr rfl rfl) rfl rfl rfl ?_
    refine gop (y_move (v := .bool _) rfl) rfl rfl rfl ?_
    refine gop_if (want := true) rfl rfl rfl rfl rfl rfl (fun hg11 => ?_) (fun hg11 => ?_)
    · 
      have hg11d := of_decide_eq_true hg11
      refine gop (y_bare (y_move (v := .string s) rfl)) rfl rfl rfl ?_
      refine gop_on rfl rfl rfl rfl hg11 ?_
      refine gop (y_bare (y_stridx (m := 0) Tryd.underlying9 rfl rfl (by omega) (by omega) (by omega))) rfl rfl rfl ?_
      refine gop_on rfl rfl rfl rfl hg11 ?_
      refine gop (y_bare (y_eql rfl rfl)) rfl rfl rfl ?_
      refine gop (y_pick_t (v := .bool _) rfl hg11 rfl) rfl rfl rfl ?_
      refine gops_nil ?_
      refine hN4 _ _ ?_
      refine gfrom [(0, .string s), (4, .string s), (15, .bool _)] ⟨rfl, rfl, rfl, trivial⟩ fun σ => ?_
      refine gcond (b := _) rfl (fun hc15 => ?_) (fun hc15 => ?_)
      · 
        replace hc15 := of_decide_eq_true hc15
        have hh : s.data.toList.head? = some 45 := head_byte.2 ⟨by omega, by show _ = 45; omega⟩
        have hB : s.extract 1 s.size = baL D := by rw [← hD, bodyD, if_pos hh]; exact ext_tail s
        refine greg ?_
        refine gop (y_move (v := .string s) rfl) rfl rfl rfl ?_
        refine gop (y_strslice_lo Tryd.underlying9 rfl rfl (by omega) (by omega)) rfl rfl rfl ?_
        refine gop (y_assign (v := .string _) rfl) rfl rfl rfl ?_
        refine gops_nil ?_
        refine gcut3_end (()) (trivial) ⟨(congrArg Value.string hB), trivial⟩ ⟨rfl, trivial⟩ ⟨_, rfl⟩
      · 
        replace hc15 := of_decide_eq_false hc15
        have hh : ¬ s.data.toList.head? = some 45 := fun h => by
          have h9 := head_byte.1 h
          have h8 : (45 : UInt8).toNat = 45 := rfl
          omega
        have hB : s = baL D := by rw [← hD, bodyD, if_neg hh]; rfl
        refine gskip ?_
        refine gcut3_end (()) (trivial) ⟨(congrArg Value.string hB), trivial⟩ ⟨rfl, trivial⟩ ⟨_, rfl⟩
    · 
      have hg11d := of_decide_eq_false hg11
      refine gop_off rfl rfl rfl rfl hg11 rfl rfl ?_
      refine gop_off rfl rfl rfl rfl hg11 rfl rfl ?_
      refine gop (y_pick_f (v := .bool _) rfl hg11 rfl) rfl rfl rfl ?_
      refine gops_nil ?_
      refine hN4 _ _ ?_
      refine gfrom [(0, .string s), (4, .string s), (15, .bool _)] ⟨rfl, rfl, rfl, trivial⟩ fun σ => ?_
      refine gcond (b := _) rfl (fun hc15 => ?_) (fun hc15 => ?_)
      · 
        cases hc15
      · 
        have hh : ¬ s.data.toList.head? = some 45 := fun h => by
          have h9 := head_byte.1 h
          have h8 : (45 : UInt8).toNat = 45 := rfl
          omega
        have hB : s = baL D := by rw [← hD, bodyD, if_neg hh]; rfl
        refine gskip ?_
        refine gcut3_end (()) (trivial) ⟨(congrArg Value.string hB), trivial⟩ ⟨rfl, trivial⟩ ⟨_, rfl⟩
  ·
    intro g hcut σ
    refine hN3 _ _ ?_
    refine gseq fun N5 hN5 => ?_
    refine gseq fun N6 hN6 => ?_
    refine greg ?_
    refine gop (y_move (v := .string _) rfl) rfl rfl rfl ?_
    refine gop (y_eqls rfl rfl) rfl rfl rfl ?_
    refine gop (y_move (v := .bool _) rfl) rfl rfl rfl ?_
    refine gop_if (want := false) rfl rfl rfl rfl rfl rfl (fun hg20 => ?_) (fun hg20 => ?_)
    · 
      have hg20d := hg20
      have hne : D ≠ [] := of_decide_eq_false (by rw [← f1]; exact hg20d)
      have hnl : 0 < D.length := List.length_pos_iff.2 hne
      refine gop (y_bare (y_move (v := .string _) rfl)) rfl rfl rfl ?_
      refine gop_on rfl rfl rfl rfl hg20 ?_
      refine gop (y_bare (y_stridx (m := 0) Tryd.underlying9 rfl rfl (by omega) (by omega) (by omega))) rfl rfl rfl ?_
      refine gop_on rfl rfl rfl rfl hg20 ?_
      refine gop (y_bare (y_eql rfl rfl)) rfl rfl rfl ?_
      refine gop_on rfl rfl rfl rfl hg20 ?_
      refine gop (y_bare (y_move (v := .bool _) rfl)) rfl rfl rfl ?_
      refine gop_if (want := true) rfl rfl rfl rfl rfl rfl (fun hg24 => ?_) (fun hg24 => ?_)
      · 
        have hg24d := of_decide_eq_true hg24
        refine gop (y_bare (y_move (v := .string s) rfl)) rfl rfl rfl ?_
        refine gop_on rfl rfl rfl rfl hg24 ?_
        refine gop (y_bare (y_neqs rfl rfl)) rfl rfl rfl ?_
        refine gop_on rfl rfl rfl rfl hg20 ?_
        refine gop (y_bare (y_pick_t (v := .bool _) rfl hg24 rfl)) rfl rfl rfl ?_
        refine gop (y_pick_f (v := .bool _) rfl hg20 rfl) rfl rfl rfl ?_
        refine gops_nil ?_
        refine hN6 _ _ ?_
        refine gT [] rfl ?_
        refine gfrom [(0, .string s), (4, .string _), (28, .bool _)] ⟨rfl, rfl, rfl, trivial⟩ fun σ => ?_
        refine gcond (b := _) rfl (fun hc28 => ?_) (fun hc28 => ?_)
        · 
          have hb1 : docBad1 s.data.toList := by
            unfold docBad1
            rw [hD]
            first
            | exact .inl (of_decide_eq_true (by rw [← f1]; assumption))
            | exact .inr ⟨(f3 hne).1 (by omega), of_decide_eq_true (by rw [← f2]; assumption)⟩
          refine gseq fun N7 hN7 => ?_
          refine greg ?_
          refine gop (y_assign (v := .int _ _) rfl) rfl rfl rfl ?_
          refine gop (y_assign (v := .bool _) rfl) rfl rfl rfl ?_
          refine gops_nil ?_
          refine hN7 _ _ ?_
          refine gfrom [(2, .int _ _), (3, .bool _)] ⟨rfl, rfl, trivial⟩ fun σ => ?_
          refine gret fun w1 hM => ?_
          refine ⟨_, res2 rfl (rt (v := .int _ _) rfl) (rt (v := .bool _) rfl), ?_⟩
          exact ⟨by rw [decN, dec_bad (.inl hb1)]; rfl, hM.low⟩
        · 
          have hb1 : ¬ docBad1 s.data.toList := by
            unfold docBad1
            rw [hD]
            rintro (h9 | ⟨h9, h8⟩)
            · exact hne h9
            · have h7 := (f3 hne).2 h9
              first
              | omega
              | simp_all
          refine gskip ?_
          refine hN5 _ _ ?_
          refine gfrom [(0, .string s), (4, .string _)] ⟨rfl, rfl, trivial⟩ fun σ => ?_
          refine gseq fun N8 hN8 => ?_
          refine greg ?_
          refine gop (y_assign (v := .int _ _) rfl) rfl rfl rfl ?_
          refine gops_nil ?_
          refine hN8 _ _ ?_
          refine gfrom [(0, .string s), (4, .string _), (5, .int _ _)] ⟨rfl, rfl, rfl, trivial⟩ fun σ => ?_
          refine gseq fun N9 hN9 => ?_
          refine gseq fun N10 hN10 => ?_
          refine greg ?_
          refine gop (y_assign (v := .int _ _) rfl) rfl rfl rfl ?_
          refine gops_nil ?_
          refine hN10 _ _ ?_
          refine gfrom [(0, .string s), (4, .string _), (5, .int _ _), (6, .int _ _)] ⟨rfl, rfl, rfl, rfl, trivial⟩ fun σ => ?_
          refine gblock ?_
          refine gfrom2 [(5, .int _ _), (6, .int _ _)] [(0, .string s), (4, .string _)] ⟨rfl, rfl, trivial⟩ ⟨rfl, rfl, trivial⟩ fun σ => ?_
          refine gloop2 (G := Nat × Nat) (fun (k, u) => k ≤ D.length ∧ k ≤ 19 ∧ (∀ c ∈ D.take k, Dig c) ∧ u = valD 0 (D.take k)) (fun (k, u) => D.length - k) (fun (k, u) => [(5, .int .u64 (u : Int)), (6, .int .i64 (k : Int))]) (fun (k, u) => []) ((0, 0)) ?h0 ⟨rfl, rfl, trivial⟩ ⟨rfl, rfl, trivial⟩ rfl ?round
          case h0 => exact ⟨Nat.zero_le _, by omega, by simp, by rw [List.take_zero, valD_nil]⟩
          case round =>
            rintro ⟨k, u⟩ hφ σ
            obtain ⟨hk, hk19, hz, hu⟩ := hφ
            refine gseq fun N11 hN11 => ?_
            refine gseq fun N12 hN12 => ?_
            refine greg ?_
            refine gop (y_move (v := .int _ _) rfl) rfl rfl rfl ?_
            refine gop (y_move (v := .string _) rfl) rfl rfl rfl ?_
            refine gop (y_lens Tryd.underlying9 rfl) rfl rfl rfl ?_
            refine gop (y_lss rfl rfl) rfl rfl rfl ?_
            refine gops_nil ?_
            refine hN12 _ _ ?_
            refine gfrom [(0, .string s), (4, .string _), (5, .int _ _), (6, .int _ _), (32, .bool _)] ⟨rfl, rfl, rfl, rfl, rfl, trivial⟩ fun σ => ?_
            refine gcond (b := _) rfl (fun hc32 => ?_) (fun hc32 => ?_)
            · 
              replace hc32 := of_decide_eq_true hc32
              have hk1 : k < D.length := by omega
              have hby := byte_baL hk1
              refine gskip ?_
              refine hN11 _ _ ?_
              refine gfrom [(0, .string s), (4, .string _), (5, .int _ _), (6, .int _ _)] ⟨rfl, rfl, rfl, rfl, trivial⟩ fun σ => ?_
              refine gseq fun N13 hN13 => ?_
              refine gblock ?_
              refine gseq fun N14 hN14 => ?_
              refine gseq fun N15 hN15 => ?_
              refine greg ?_
              refine gop (y_move (v := .string _) rfl) rfl rfl rfl ?_
              refine gop (y_move (v := .int _ _) rfl) rfl rfl rfl ?_
              refine gop (y_stridx (m := k) Tryd.underlying9 rfl rfl (by omega) (by omega) (by omega)) rfl rfl rfl ?_
              refine gop (y_lss rfl rfl) rfl rfl rfl ?_
              refine gop (y_move (v := .bool _) rfl) rfl rfl rfl ?_
              refine gop_if (want := false) rfl rfl rfl rfl rfl rfl (fun hg39 => ?_) (fun hg39 => ?_)
              · 
                have hg39d := of_decide_eq_false hg39
                refine gop (y_bare (y_move (v := .string _) rfl)) rfl rfl rfl ?_
                refine gop_on rfl rfl rfl rfl hg39 ?_
                refine gop (y_bare (y_move (v := .int _ _) rfl)) rfl rfl rfl ?_
                refine gop_on rfl rfl rfl rfl hg39 ?_
                refine gop (y_bare (y_stridx (m := k) Tryd.underlying9 rfl rfl (by omega) (by omega) (by omega))) rfl rfl rfl ?_
                refine gop_on rfl rfl rfl rfl hg39 ?_
                refine gop (y_bare (y_gtr rfl rfl)) rfl rfl rfl ?_
                refine gop (y_pick_f (v := .bool _) rfl hg39 rfl) rfl rfl rfl ?_
                refine gop (y_move (v := .bool _) rfl) rfl rfl rfl ?_
                refine gop_if (want := false) rfl rfl rfl rfl rfl rfl (fun hg45 => ?_) (fun hg45 => ?_)
                · 
                  have hg45d := of_decide_eq_false hg45
                  refine gop (y_bare (y_move (v := .int _ _) rfl)) rfl rfl rfl ?_
                  refine gop_on rfl rfl rfl rfl hg45 ?_
                  refine gop (y_bare (y_gtr rfl rfl)) rfl rfl rfl ?_
                  refine gop (y_pick_f (v := .bool _) rfl hg45 rfl) rfl rfl rfl ?_
                  refine gops_nil ?_
                  refine hN15 _ _ ?_
                  refine gfrom [(0, .string s), (4, .string _), (5, .int _ _), (6, .int _ _), (48, .bool _)] ⟨rfl, rfl, rfl, rfl, rfl, trivial⟩ fun σ => ?_
                  refine gcond (b := _) rfl (fun hc48 => ?_) (fun hc48 => ?_)
                  · 
                    replace hc48 := of_decide_eq_true hc48
                    have hb2 : docBad2 s.data.toList := by
                      unfold docBad2
                      rw [hD]
                      rcases Nat.lt_or_ge 18 k with h9 | h9
                      · exact .inr (by omega)
                      · exact .inl ⟨D[k], List.getElem_mem hk1, fun h8 => by unfold Dig at h8; omega⟩
                    refine gseq fun N16 hN16 => ?_
                    refine greg ?_
                    refine gop (y_assign (v := .int _ _) rfl) rfl rfl rfl ?_
                    refine gop (y_assign (v := .bool _) rfl) rfl rfl rfl ?_
                    refine gops_nil ?_
                    refine hN16 _ _ ?_
                    refine gfrom [(2, .int _ _), (3, .bool _)] ⟨rfl, rfl, trivial⟩ fun σ => ?_
                    refine gret fun w1 hM => ?_
                    refine ⟨_, res2 rfl (rt (v := .int _ _) rfl) (rt (v := .bool _) rfl), ?_⟩
                    exact ⟨by rw [decN, dec_bad (.inr (.inl hb2))]; rfl, hM.low⟩
                  · 
                    replace hc48 := of_decide_eq_false hc48
                    have hdk : Dig D[k] := by unfold Dig; omega
                    have hvs := valD_small (D := D) (k := k) (by omega) hz
                    have hstep := valD_step hk1
                    refine gskip ?_
                    refine hN14 _ _ ?_
                    refine gfrom [(0, .string s), (4, .string _), (5, .int _ _), (6, .int _ _)] ⟨rfl, rfl, rfl, rfl, trivial⟩ fun σ => ?_
                    refine greg ?_
                    refine gop (y_move (v := .int _ _) rfl) rfl rfl rfl ?_
                    refine gop (y_mulU rfl rfl (by omega) (by omega)) rfl rfl rfl ?_
                    refine gop (y_move (v := .string _) rfl) rfl rfl rfl ?_
                    refine gop (y_move (v := .int _ _) rfl) rfl rfl rfl ?_
                    refine gop (y_stridx (m := k) Tryd.underlying9 rfl rfl (by omega) (by omega) (by omega)) rfl rfl rfl ?_
                    refine gop (y_sub8 rfl rfl (by omega) (by omega)) rfl rfl rfl ?_
                    refine gop (y_byteU (by kernel_rfl) Tryd.underlying83 rfl (by omega) (by omega)) rfl rfl rfl ?_
                    refine gop (y_addU rfl rfl (by omega) (by omega)) rfl rfl rfl ?_
                    refine gop (y_assign (v := .int _ _) rfl) rfl rfl rfl ?_
                    refine gops_nil ?_
                    refine hN13 _ _ ?_
                    refine gfrom [(0, .string s), (4, .string _), (5, .int _ _), (6, .int _ _)] ⟨rfl, rfl, rfl, rfl, trivial⟩ fun σ => ?_
                    refine greg ?_
                    refine gop (y_move (v := .int _ _) rfl) rfl rfl rfl ?_
                    refine gop (y_add rfl rfl ⟨by omega, by omega⟩) rfl rfl rfl ?_
                    refine gop (y_assign (v := .int _ _) rfl) rfl rfl rfl ?_
                    refine gops_nil ?_
                    refine gnext2 ((k + 1, valD 0 (D.take (k + 1)))) (by show D.length - (k + 1) < D.length - k; omega) (⟨by show k + 1 ≤ _; omega, by show k + 1 ≤ _; omega, fun c hc => by rw [List.take_succ_eq_append_getElem hk1] at hc; rcases List.mem_append.1 hc with h9 | h9; exact hz c h9; rw [List.mem_singleton.1 h9]; exact hdk, rfl⟩) ⟨(congrArg (Value.int .u64) (by omega)), rfl, trivial⟩ ⟨rfl, rfl, trivial⟩ ⟨_, rfl⟩
                · 
                  have hg45d := of_decide_eq_true hg45
                  refine gop_off rfl rfl rfl rfl hg45 rfl rfl ?_
                  refine gop (y_pick_t (v := .bool _) rfl hg45 rfl) rfl rfl rfl ?_
                  refine gops_nil ?_
                  refine hN15 _ _ ?_
                  refine gfrom [(0, .string s), (4, .string _), (5, .int _ _), (6, .int _ _), (48, .bool _)] ⟨rfl, rfl, rfl, rfl, rfl, trivial⟩ fun σ => ?_
                  refine gcond (b := _) rfl (fun hc48 => ?_) (fun hc48 => ?_)
                  · 
                    have hb2 : docBad2 s.data.toList := by
                      unfold docBad2
                      rw [hD]
                      rcases Nat.lt_or_ge 18 k with h9 | h9
                      · exact .inr (by omega)
                      · exact .inl ⟨D[k], List.getElem_mem hk1, fun h8 => by unfold Dig at h8; omega⟩
                    refine gseq fun N17 hN17 => ?_
                    refine greg ?_
                    refine gop (y_assign (v := .int _ _) rfl) rfl rfl rfl ?_
                    refine gop (y_assign (v := .bool _) rfl) rfl rfl rfl ?_
                    refine gops_nil ?_
                    refine hN17 _ _ ?_
                    refine gfrom [(2, .int _ _), (3, .bool _)] ⟨rfl, rfl, trivial⟩ fun σ => ?_
                    refine gret fun w1 hM => ?_
                    refine ⟨_, res2 rfl (rt (v := .int _ _) rfl) (rt (v := .bool _) rfl), ?_⟩
                    exact ⟨by rw [decN, dec_bad (.inr (.inl hb2))]; rfl, hM.low⟩
                  · 
                    cases hc48
              · 
                have hg39d := of_decide_eq_true hg39
                refine gop_off rfl rfl rfl rfl hg39 rfl rfl ?_
                refine gop_off rfl rfl rfl rfl hg39 rfl rfl ?_
                refine gop_off rfl rfl rfl rfl hg39 rfl rfl ?_
                refine gop (y_pick_t (v := .bool _) rfl hg39 rfl) rfl rfl rfl ?_
                refine gop (y_move (v := .bool _) rfl) rfl rfl rfl ?_
                refine gop_off rfl rfl rfl rfl rfl rfl rfl ?_
                refine gop_off rfl rfl rfl rfl rfl rfl rfl ?_
                refine gop (y_pick_t (v := .bool _) rfl rfl rfl) rfl rfl rfl ?_
                refine gops_nil ?_
                refine hN15 _ _ ?_
                refine gfrom [(0, .string s), (4, .string _), (5, .int _ _), (6, .int _ _), (48, .bool _)] ⟨rfl, rfl, rfl, rfl, rfl, trivial⟩ fun σ => ?_
                refine gcond (b := _) rfl (fun hc48 => ?_) (fun hc48 => ?_)
                · 
                  have hb2 : docBad2 s.data.toList := by
                    unfold docBad2
                    rw [hD]
                    rcases Nat.lt_or_ge 18 k with h9 | h9
                    · exact .inr (by omega)
                    · exact .inl ⟨D[k], List.getElem_mem hk1, fun h8 => by unfold Dig at h8; omega⟩
                  refine gseq fun N18 hN18 => ?_
                  refine greg ?_
                  refine gop (y_assign (v := .int _ _) rfl) rfl rfl rfl ?_
                  refine gop (y_assign (v := .bool _) rfl) rfl rfl rfl ?_
                  refine gops_nil ?_
                  refine hN18 _ _ ?_
                  refine gfrom [(2, .int _ _), (3, .bool _)] ⟨rfl, rfl, trivial⟩ fun σ => ?_
                  refine gret fun w1 hM => ?_
                  refine ⟨_, res2 rfl (rt (v := .int _ _) rfl) (rt (v := .bool _) rfl), ?_⟩
                  exact ⟨by rw [decN, dec_bad (.inr (.inl hb2))]; rfl, hM.low⟩
                · 
                  cases hc48
            · 
              replace hc32 := of_decide_eq_false hc32
              obtain rfl : k = D.length := by omega
              rw [List.take_length] at hz hu
              have hb2 : ¬ docBad2 s.data.toList := by
                unfold docBad2
                rw [hD]
                rintro (⟨c, h9, h8⟩ | h9)
                · exact h8 (hz c h9)
                · omega
              refine gexit ?_
              refine hN9 _ _ ?_
              refine gfrom [(0, .string s), (4, .string _), (5, .int _ _)] ⟨rfl, rfl, rfl, trivial⟩ fun σ => ?_
              refine gseq fun N19 hN19 => ?_
              refine gseq fun N20 hN20 => ?_
              refine greg ?_
              refine gop (y_move (v := .int _ _) rfl) rfl rfl rfl ?_
              refine gop (y_gtr rfl rfl) rfl rfl rfl ?_
              refine gop (y_move (v := .bool _) rfl) rfl rfl rfl ?_
              refine gop_if (want := false) rfl rfl rfl rfl rfl rfl (fun hg59 => ?_) (fun hg59 => ?_)
              · 
                have hg59d := of_decide_eq_false hg59
                refine gop (y_bare (y_move (v := .int _ _) rfl)) rfl rfl rfl ?_
                refine gop_on rfl rfl rfl rfl hg59 ?_
                refine gop (y_bare (y_eql rfl rfl)) rfl rfl rfl ?_
                refine gop_on rfl rfl rfl rfl hg59 ?_
                refine gop (y_bare (y_move (v := .bool _) rfl)) rfl rfl rfl ?_
                refine gop_if (want := true) rfl rfl rfl rfl rfl rfl (fun hg62 => ?_) (fun hg62 => ?_)
                · 
                  have hg62d := of_decide_eq_true hg62
                  refine gop (y_bare (y_move (v := .string _) rfl)) rfl rfl rfl ?_
                  refine gop_on rfl rfl rfl rfl hg62 ?_
                  refine gop (y_bare (y_move (v := .string s) rfl)) rfl rfl rfl ?_
                  refine gop_on rfl rfl rfl rfl hg62 ?_
                  refine gop (y_bare (y_eqls rfl rfl)) rfl rfl rfl ?_
                  refine gop_on rfl rfl rfl rfl hg59 ?_
                  refine gop (y_bare (y_pick_t (v := .bool _) rfl hg62 rfl)) rfl rfl rfl ?_
                  refine gop (y_pick_f (v := .bool _) rfl hg59 rfl) rfl rfl rfl ?_
                  refine gops_nil ?_
                  refine hN20 _ _ ?_
                  refine gfrom [(0, .string s), (4, .string _), (5, .int _ _), (67, .bool _)] ⟨rfl, rfl, rfl, rfl, trivial⟩ fun σ => ?_
                  refine gcond (b := _) rfl (fun hc67 => ?_) (fun hc67 => ?_)
                  · 
                    have hb3 : docBad3 s.data.toList := by
                      unfold docBad3
                      rw [hD]
                      first
                      | exact .inl (by omega)
                      | exact .inr ⟨by omega, by rw [strEq_dec] at hc67; exact baL_inj ((of_decide_eq_true hc67).trans (baL_self s).symm)⟩
                    refine gseq fun N21 hN21 => ?_
                    refine greg ?_
                    refine gop (y_assign (v := .int _ _) rfl) rfl rfl rfl ?_
                    refine gop (y_assign (v := .bool _) rfl) rfl rfl rfl ?_
                    refine gops_nil ?_
                    refine hN21 _ _ ?_
                    refine gfrom [(2, .int _ _), (3, .bool _)] ⟨rfl, rfl, trivial⟩ fun σ => ?_
                    refine gret fun w1 hM => ?_
                    refine ⟨_, res2 rfl (rt (v := .int _ _) rfl) (rt (v := .bool _) rfl), ?_⟩
                    exact ⟨by rw [decN, dec_bad (.inr (.inr hb3))]; rfl, hM.low⟩
                  · 
                    have hb3 : ¬ docBad3 s.data.toList := by
                      unfold docBad3
                      rw [hD]
                      rintro (h9 | ⟨h9, h8⟩)
                      · omega
                      · first
                        | omega
                        | (rw [strEq_dec] at hc67; exact of_decide_eq_false hc67 (by rw [h8]; exact baL_self s))
                    obtain ⟨his, hv1, hv2⟩ := dec_val hb1 hb2 hb3
                    rw [hD] at hv1 hv2
                    refine gskip ?_
                    refine hN19 _ _ ?_
                    refine gfrom [(0, .string s), (4, .string _), (5, .int _ _)] ⟨rfl, rfl, rfl, trivial⟩ fun σ => ?_
                    refine gseq fun N22 hN22 => ?_
                    refine gseq fun N23 hN23 => ?_
                    refine greg ?_
                    refine gop (y_move (v := .string _) rfl) rfl rfl rfl ?_
                    refine gop (y_move (v := .string s) rfl) rfl rfl rfl ?_
                    refine gop (y_neqs rfl rfl) rfl rfl rfl ?_
                    refine gop (y_move (v := .bool _) rfl) rfl rfl rfl ?_
                    refine gop_if (want := false) rfl rfl rfl rfl rfl rfl (fun hg71 => ?_) (fun hg71 => ?_)
                    · 
                      have hg71d := hg71
                      have hDs2 : baL D = s := by
                        have h9 := hg71d
                        rw [strEq_dec] at h9
                        simpa using h9
                      refine gop (y_bare (y_move (v := .int _ _) rfl)) rfl rfl rfl ?_
                      refine gop_on rfl rfl rfl rfl hg71 ?_
                      refine gop (y_bare (y_gtr rfl rfl)) rfl rfl rfl ?_
                      refine gop (y_pick_f (v := .bool _) rfl hg71 rfl) rfl rfl rfl ?_
                      refine gops_nil ?_
                      refine hN23 _ _ ?_
                      refine gfrom [(5, .int _ _), (74, .bool _)] ⟨rfl, rfl, trivial⟩ fun σ => ?_
                      refine gcond (b := _) rfl (fun hc74 => ?_) (fun hc74 => ?_)
                      · 
                        replace hc74 := of_decide_eq_true hc74
                        have hdn : decN s = 99 := by first | exact hv1 (.inl hDs3) | exact hv1 (.inr (by omega))
                        refine gseq fun N24 hN24 => ?_
                        refine greg ?_
                        refine gop (y_assign (v := .int _ _) rfl) rfl rfl rfl ?_
                        refine gop (y_assign (v := .bool _) rfl) rfl rfl rfl ?_
                        refine gops_nil ?_
                        refine hN24 _ _ ?_
                        refine gfrom [(2, .int _ _), (3, .bool _)] ⟨rfl, rfl, trivial⟩ fun σ => ?_
                        refine gret fun w1 hM => ?_
                        refine ⟨_, res2 rfl (rt (v := .int _ _) rfl) (rt (v := .bool _) rfl), ?_⟩
                        exact ⟨by rw [hdn, his], hM.low⟩
                      · 
                        replace hc74 := of_decide_eq_false hc74
                        have hdn : decN s = (u : Int) := by rw [hu]; exact hv2 hDs2 (by omega)
                        refine gskip ?_
                        refine hN22 _ _ ?_
                        refine gfrom [(5, .int _ _)] ⟨rfl, trivial⟩ fun σ => ?_
                        refine gseq fun N25 hN25 => ?_
                        refine greg ?_
                        refine gop (y_move (v := .int _ _) rfl) rfl rfl rfl ?_
                        refine gop (y_uInt (by kernel_rfl) Tryd.underlying3 rfl (by omega) (by omega)) rfl rfl rfl ?_
                        refine gop (y_assign (v := .int _ _) rfl) rfl rfl rfl ?_
                        refine gop (y_assign (v := .bool _) rfl) rfl rfl rfl ?_
                        refine gops_nil ?_
                        refine hN25 _ _ ?_
                        refine gfrom [(2, .int _ _), (3, .bool _)] ⟨rfl, rfl, trivial⟩ fun σ => ?_
                        refine gret fun w1 hM => ?_
                        refine ⟨_, res2 rfl (rt (v := .int _ _) rfl) (rt (v := .bool _) rfl), ?_⟩
                        exact ⟨by rw [hdn, his], hM.low⟩
                    · 
                      have hg71d := hg71
                      have hDs3 : baL D ≠ s := by
                        have h9 := hg71d
                        rw [strEq_dec] at h9
                        simpa using h9
                      refine gop_off rfl rfl rfl rfl hg71 rfl rfl ?_
                      refine gop (y_pick_t (v := .bool _) rfl hg71 rfl) rfl rfl rfl ?_
                      refine gops_nil ?_
                      refine hN23 _ _ ?_
                      refine gfrom [(5, .int _ _), (74, .bool _)] ⟨rfl, rfl, trivial⟩ fun σ => ?_
                      refine gcond (b := _) rfl (fun hc74 => ?_) (fun hc74 => ?_)
                      · 
                        have hdn : decN s = 99 := by first | exact hv1 (.inl hDs3) | exact hv1 (.inr (by omega))
                        refine gseq fun N26 hN26 => ?_
                        refine greg ?_
                        refine gop (y_assign (v := .int _ _) rfl) rfl rfl rfl ?_
                        refine gop (y_assign (v := .bool _) rfl) rfl rfl rfl ?_
                        refine gops_nil ?_
                        refine hN26 _ _ ?_
                        refine gfrom [(2, .int _ _), (3, .bool _)] ⟨rfl, rfl, trivial⟩ fun σ => ?_
                        refine gret fun w1 hM => ?_
                        refine ⟨_, res2 rfl (rt (v := .int _ _) rfl) (rt (v := .bool _) rfl), ?_⟩
                        exact ⟨by rw [hdn, his], hM.low⟩
                      · 
                        cases hc74
                · 
                  have hg62d := of_decide_eq_false hg62
                  refine gop_off rfl rfl rfl rfl hg62 rfl rfl ?_
                  refine gop_off rfl rfl rfl rfl hg62 rfl rfl ?_
                  refine gop_on rfl rfl rfl rfl hg59 ?_
                  refine gop (y_bare (y_pick_f (v := .bool _) rfl hg62 rfl)) rfl rfl rfl ?_
                  refine gop (y_pick_f (v := .bool _) rfl hg59 rfl) rfl rfl rfl ?_
                  refine gops_nil ?_
                  refine hN20 _ _ ?_
                  refine gfrom [(0, .string s), (4, .string _), (5, .int _ _), (67, .bool _)] ⟨rfl, rfl, rfl, rfl, trivial⟩ fun σ => ?_
                  refine gcond (b := _) rfl (fun hc67 => ?_) (fun hc67 => ?_)
                  · 
                    cases hc67
                  · 
                    have hb3 : ¬ docBad3 s.data.toList := by
                      unfold docBad3
                      rw [hD]
                      rintro (h9 | ⟨h9, h8⟩)
                      · omega
                      · first
                        | omega
                        | (rw [strEq_dec] at hc67; exact of_decide_eq_false hc67 (by rw [h8]; exact baL_self s))
                    obtain ⟨his, hv1, hv2⟩ := dec_val hb1 hb2 hb3
                    rw [hD] at hv1 hv2
                    refine gskip ?_
                    refine hN19 _ _ ?_
                    refine gfrom [(0, .string s), (4, .string _), (5, .int _ _)] ⟨rfl, rfl, rfl, trivial⟩ fun σ => ?_
                    refine gseq fun N27 hN27 => ?_
                    refine gseq fun N28 hN28 => ?_
                    refine greg ?_
                    refine gop (y_move (v := .string _) rfl) rfl rfl rfl ?_
                    refine gop (y_move (v := .string s) rfl) rfl rfl rfl ?_
                    refine gop (y_neqs rfl rfl) rfl rfl rfl ?_
                    refine gop (y_move (v := .bool _) rfl) rfl rfl rfl ?_
                    refine gop_if (want := false) rfl rfl rfl rfl rfl rfl (fun hg71 => ?_) (fun hg71 => ?_)
                    · 
                      have hg71d := hg71
                      have hDs2 : baL D = s := by
                        have h9 := hg71d
                        rw [strEq_dec] at h9
                        simpa using h9
                      refine gop (y_bare (y_move (v := .int _ _) rfl)) rfl rfl rfl ?_
                      refine gop_on rfl rfl rfl rfl hg71 ?_
                      refine gop (y_bare (y_gtr rfl rfl)) rfl rfl rfl ?_
                      refine gop (y_pick_f (v := .bool _) rfl hg71 rfl) rfl rfl rfl ?_
                      refine gops_nil ?_
                      refine hN28 _ _ ?_
                      refine gfrom [(5, .int _ _), (74, .bool _)] ⟨rfl, rfl, trivial⟩ fun σ => ?_
                      refine gcond (b := _) rfl (fun hc74 => ?_) (fun hc74 => ?_)
                      · 
                        replace hc74 := of_decide_eq_true hc74
                        have hdn : decN s = 99 := by first | exact hv1 (.inl hDs3) | exact hv1 (.inr (by omega))
                        refine gseq fun N29 hN29 => ?_
                        refine greg ?_
                        refine gop (y_assign (v := .int _ _) rfl) rfl rfl rfl ?_
                        refine gop (y_assign (v := .bool _) rfl) rfl rfl rfl ?_
                        refine gops_nil ?_
                        refine hN29 _ _ ?_
                        refine gfrom [(2, .int _ _), (3, .bool _)] ⟨rfl, rfl, trivial⟩ fun σ => ?_
                        refine gret fun w1 hM => ?_
                        refine ⟨_, res2 rfl (rt (v := .int _ _) rfl) (rt (v := .bool _) rfl), ?_⟩
                        exact ⟨by rw [hdn, his], hM.low⟩
                      · 
                        replace hc74 := of_decide_eq_false hc74
                        have hdn : decN s = (u : Int) := by rw [hu]; exact hv2 hDs2 (by omega)
                        refine gskip ?_
                        refine hN27 _ _ ?_
                        refine gfrom [(5, .int _ _)] ⟨rfl, trivial⟩ fun σ => ?_
                        refine gseq fun N30 hN30 => ?_
                        refine greg ?_
                        refine gop (y_move (v := .int _ _) rfl) rfl rfl rfl ?_
                        refine gop (y_uInt (by kernel_rfl) Tryd.underlying3 rfl (by omega) (by omega)) rfl rfl rfl ?_
                        refine gop (y_assign (v := .int _ _) rfl) rfl rfl rfl ?_
                        refine gop (y_assign (v := .bool _) rfl) rfl rfl rfl ?_
                        refine gops_nil ?_
                        refine hN30 _ _ ?_
                        refine gfrom [(2, .int _ _), (3, .bool _)] ⟨rfl, rfl, trivial⟩ fun σ => ?_
                        refine gret fun w1 hM => ?_
                        refine ⟨_, res2 rfl (rt (v := .int _ _) rfl) (rt (v := .bool _) rfl), ?_⟩
                        exact ⟨by rw [hdn, his], hM.low⟩
                    · 
                      have hg71d := hg71
                      have hDs3 : baL D ≠ s := by
                        have h9 := hg71d
                        rw [strEq_dec] at h9
                        simpa using h9
                      refine gop_off rfl rfl rfl rfl hg71 rfl rfl ?_
                      refine gop (y_pick_t (v := .bool _) rfl hg71 rfl) rfl rfl rfl ?_
                      refine gops_nil ?_
                      refine hN28 _ _ ?_
                      refine gfrom [(5, .int _ _), (74, .bool _)] ⟨rfl, rfl, trivial⟩ fun σ => ?_
                      refine gcond (b := _) rfl (fun hc74 => ?_) (fun hc74 => ?_)
                      · 
                        have hdn : decN s = 99 := by first | exact hv1 (.inl hDs3) | exact hv1 (.inr (by omega))
                        refine gseq fun N31 hN31 => ?_
                        refine greg ?_
                        refine gop (y_assign (v := .int _ _) rfl) rfl rfl rfl ?_
                        refine gop (y_assign (v := .bool _) rfl) rfl rfl rfl ?_
                        refine gops_nil ?_
                        refine hN31 _ _ ?_
                        refine gfrom [(2, .int _ _), (3, .bool _)] ⟨rfl, rfl, trivial⟩ fun σ => ?_
                        refine gret fun w1 hM => ?_
                        refine ⟨_, res2 rfl (rt (v := .int _ _) rfl) (rt (v := .bool _) rfl), ?_⟩
                        exact ⟨by rw [hdn, his], hM.low⟩
                      · 
                        cases hc74
              · 
                have hg59d := of_decide_eq_true hg59
                refine gop_off rfl rfl rfl rfl hg59 rfl rfl ?_
                refine gop_off rfl rfl rfl rfl hg59 rfl rfl ?_
                refine gop_offu rfl rfl rfl rfl rfl rfl ?_
                refine gop_offu rfl rfl rfl rfl rfl rfl ?_
                refine gop_offu rfl rfl rfl rfl rfl rfl ?_
                refine gop_off rfl rfl rfl rfl hg59 rfl rfl ?_
                refine gop (y_pick_t (v := .bool _) rfl hg59 rfl) rfl rfl rfl ?_
                refine gops_nil ?_
                refine hN20 _ _ ?_
                refine gfrom [(0, .string s), (4, .string _), (5, .int _ _), (67, .bool _)] ⟨rfl, rfl, rfl, rfl, trivial⟩ fun σ => ?_
                refine gcond (b := _) rfl (fun hc67 => ?_) (fun hc67 => ?_)
                · 
                  have hb3 : docBad3 s.data.toList := by
                    unfold docBad3
                    rw [hD]
                    first
                    | exact .inl (by omega)
                    | exact .inr ⟨by omega, by rw [strEq_dec] at hc67; exact baL_inj ((of_decide_eq_true hc67).trans (baL_self s).symm)⟩
                  refine gseq fun N32 hN32 => ?_
                  refine greg ?_
                  refine gop (y_assign (v := .int _ _) rfl) rfl rfl rfl ?_
                  refine gop (y_assign (v := .bool _) rfl) rfl rfl rfl ?_
                  refine gops_nil ?_
                  refine hN32 _ _ ?_
                  refine gfrom [(2, .int _ _), (3, .bool _)] ⟨rfl, rfl, trivial⟩ fun σ => ?_
                  refine gret fun w1 hM => ?_
                  refine ⟨_, res2 rfl (rt (v := .int _ _) rfl) (rt (v := .bool _) rfl), ?_⟩
                  exact ⟨by rw [decN, dec_bad (.inr (.inr hb3))]; rfl, hM.low⟩
                · 
                  cases hc67
      · 
        have hg24d := of_decide_eq_false hg24
        refine gop_off rfl rfl rfl rfl hg24 rfl rfl ?_
        refine gop_on rfl rfl rfl rfl hg20 ?_
        refine gop (y_bare (y_pick_f (v := .bool _) rfl hg24 rfl)) rfl rfl rfl ?_
        refine gop (y_pick_f (v := .bool _) rfl hg20 rfl) rfl rfl rfl ?_
        refine gops_nil ?_
        refine hN6 _ _ ?_
        refine gT [] rfl ?_
        refine gfrom [(0, .string s), (4, .string _), (28, .bool _)] ⟨rfl, rfl, rfl, trivial⟩ fun σ => ?_
        refine gcond (b := _) rfl (fun hc28 => ?_) (fun hc28 => ?_)
        · 
          cases hc28
        · 
          have hb1 : ¬ docBad1 s.data.toList := by
            unfold docBad1
            rw [hD]
            rintro (h9 | ⟨h9, h8⟩)
            · exact hne h9
            · have h7 := (f3 hne).2 h9
              first
              | omega
              | simp_all
          refine gskip ?_
          refine hN5 _ _ ?_
          refine gfrom [(0, .string s), (4, .string _)] ⟨rfl, rfl, trivial⟩ fun σ => ?_
          refine gseq fun N33 hN33 => ?_
          refine greg ?_
          refine gop (y_assign (v := .int _ _) rfl) rfl rfl rfl ?_
          refine gops_nil ?_
          refine hN33 _ _ ?_
          refine gfrom [(0, .string s), (4, .string _), (5, .int _ _)] ⟨rfl, rfl, rfl, trivial⟩ fun σ => ?_
          refine gseq fun N34 hN34 => ?_
          refine gseq fun N35 hN35 => ?_
          refine greg ?_
          refine gop (y_assign (v := .int _ _) rfl) rfl rfl rfl ?_
          refine gops_nil ?_
          refine hN35 _ _ ?_
          refine gfrom [(0, .string s), (4, .string _), (5, .int _ _), (6, .int _ _)] ⟨rfl, rfl, rfl, rfl, trivial⟩ fun σ => ?_
          refine gblock ?_
          refine gfrom2 [(5, .int _ _), (6, .int _ _)] [(0, .string s), (4, .string _)] ⟨rfl, rfl, trivial⟩ ⟨rfl, rfl, trivial⟩ fun σ => ?_
          refine gloop2 (G := Nat × Nat) (fun (k, u) => k ≤ D.length ∧ k ≤ 19 ∧ (∀ c ∈ D.take k, Dig c) ∧ u = valD 0 (D.take k)) (fun (k, u) => D.length - k) (fun (k, u) => [(5, .int .u64 (u : Int)), (6, .int .i64 (k : Int))]) (fun (k, u) => []) ((0, 0)) ?h0 ⟨rfl, rfl, trivial⟩ ⟨rfl, rfl, trivial⟩ rfl ?round
          case h0 => exact ⟨Nat.zero_le _, by omega, by simp, by rw [List.take_zero, valD_nil]⟩
          case round =>
            rintro ⟨k, u⟩ hφ σ
            obtain ⟨hk, hk19, hz, hu⟩ := hφ
            refine gseq fun N36 hN36 => ?_
            refine gseq fun N37 hN37 => ?_
            refine greg ?_
            refine gop (y_move (v := .int _ _) rfl) rfl rfl rfl ?_
            refine gop (y_move (v := .string _) rfl) rfl rfl rfl ?_
            refine gop (y_lens Tryd.underlying9 rfl) rfl rfl rfl ?_
            refine gop (y_lss rfl rfl) rfl rfl rfl ?_
            refine gops_nil ?_
            refine hN37 _ _ ?_
            refine gfrom [(0, .string s), (4, .string _), (5, .int _ _), (6, .int _ _), (32, .bool _)] ⟨rfl, rfl, rfl, rfl, rfl, trivial⟩ fun σ => ?_
            refine gcond (b := _) rfl (fun hc32 => ?_) (fun hc32 => ?_)
            · 
              replace hc32 := of_decide_eq_true hc32
              have hk1 : k < D.length := by omega
              have hby := byte_baL hk1
              refine gskip ?_
              refine hN36 _ _ ?_
              refine gfrom [(0, .string s), (4, .string _), (5, .int _ _), (6, .int _ _)] ⟨rfl, rfl, rfl, rfl, trivial⟩ fun σ => ?_
              refine gseq fun N38 hN38 => ?_
              refine gblock ?_
              refine gseq fun N39 hN39 => ?_
              refine gseq fun N40 hN40 => ?_
              refine greg ?_
              refine gop (y_move (v := .string _) rfl) rfl rfl rfl ?_
              refine gop (y_move (v := .int _ _) rfl) rfl rfl rfl ?_
              refine gop (y_stridx (m := k) Tryd.underlying9 rfl rfl (by omega) (by omega) (by omega)) rfl rfl rfl ?_
              refine gop (y_lss rfl rfl) rfl rfl rfl ?_
              refine gop (y_move (v := .bool _) rfl) rfl rfl rfl ?_
              refine gop_if (want := false) rfl rfl rfl rfl rfl rfl (fun hg39 => ?_) (fun hg39 => ?_)
              · 
                have hg39d := of_decide_eq_false hg39
                refine gop (y_bare (y_move (v := .string _) rfl)) rfl rfl rfl ?_
                refine gop_on rfl rfl rfl rfl hg39 ?_
                refine gop (y_bare (y_move (v := .int _ _) rfl)) rfl rfl rfl ?_
                refine gop_on rfl rfl rfl rfl hg39 ?_
                refine gop (y_bare (y_stridx (m := k) Tryd.underlying9 rfl rfl (by omega) (by omega) (by omega))) rfl rfl rfl ?_
                refine gop_on rfl rfl rfl rfl hg39 ?_
                refine gop (y_bare (y_gtr rfl rfl)) rfl rfl rfl ?_
                refine gop (y_pick_f (v := .bool _) rfl hg39 rfl) rfl rfl rfl ?_
                refine gop (y_move (v := .bool _) rfl) rfl rfl rfl ?_
                refine gop_if (want := false) rfl rfl rfl rfl rfl rfl (fun hg45 => ?_) (fun hg45 => ?_)
                · 
                  have hg45d := of_decide_eq_false hg45
                  refine gop (y_bare (y_move (v := .int _ _) rfl)) rfl rfl rfl ?_
                  refine gop_on rfl rfl rfl rfl hg45 ?_
                  refine gop (y_bare (y_gtr rfl rfl)) rfl rfl rfl ?_
                  refine gop (y_pick_f (v := .bool _) rfl hg45 rfl) rfl rfl rfl ?_
                  refine gops_nil ?_
                  refine hN40 _ _ ?_
                  refine gfrom [(0, .string s), (4, .string _), (5, .int _ _), (6, .int _ _), (48, .bool _)] ⟨rfl, rfl, rfl, rfl, rfl, trivial⟩ fun σ => ?_
                  refine gcond (b := _) rfl (fun hc48 => ?_) (fun hc48 => ?_)
                  · 
                    replace hc48 := of_decide_eq_true hc48
                    have hb2 : docBad2 s.data.toList := by
                      unfold docBad2
                      rw [hD]
                      rcases Nat.lt_or_ge 18 k with h9 | h9
                      · exact .inr (by omega)
                      · exact .inl ⟨D[k], List.getElem_mem hk1, fun h8 => by unfold Dig at h8; omega⟩
                    refine gseq fun N41 hN41 => ?_
                    refine greg ?_
                    refine gop (y_assign (v := .int _ _) rfl) rfl rfl rfl ?_
                    refine gop (y_assign (v := .bool _) rfl) rfl rfl rfl ?_
                    refine gops_nil ?_
                    refine hN41 _ _ ?_
                    refine gfrom [(2, .int _ _), (3, .bool _)] ⟨rfl, rfl, trivial⟩ fun σ => ?_
                    refine gret fun w1 hM => ?_
                    refine ⟨_, res2 rfl (rt (v := .int _ _) rfl) (rt (v := .bool _) rfl), ?_⟩
                    exact ⟨by rw [decN, dec_bad (.inr (.inl hb2))]; rfl, hM.low⟩
                  · 
                    replace hc48 := of_decide_eq_false hc48
                    have hdk : Dig D[k] := by unfold Dig; omega
                    have hvs := valD_small (D := D) (k := k) (by omega) hz
                    have hstep := valD_step hk1
                    refine gskip ?_
                    refine hN39 _ _ ?_
                    refine gfrom [(0, .string s), (4, .string _), (5, .int _ _), (6, .int _ _)] ⟨rfl, rfl, rfl, rfl, trivial⟩ fun σ => ?_
                    refine greg ?_
                    refine gop (y_move (v := .int _ _) rfl) rfl rfl rfl ?_
                    refine gop (y_mulU rfl rfl (by omega) (by omega)) rfl rfl rfl ?_
                    refine gop (y_move (v := .string _) rfl) rfl rfl rfl ?_
                    refine gop (y_move (v := .int _ _) rfl) rfl rfl rfl ?_
                    refine gop (y_stridx (m := k) Tryd.underlying9 rfl rfl (by omega) (by omega) (by omega)) rfl rfl rfl ?_
                    refine gop (y_sub8 rfl rfl (by omega) (by omega)) rfl rfl rfl ?_
                    refine gop (y_byteU (by kernel_rfl) Tryd.underlying83 rfl (by omega) (by omega)) rfl rfl rfl ?_
                    refine gop (y_addU rfl rfl (by omega) (by omega)) rfl rfl rfl ?_
                    refine gop (y_assign (v := .int _ _) rfl) rfl rfl rfl ?_
                    refine gops_nil ?_
                    refine hN38 _ _ ?_
                    refine gfrom [(0, .string s), (4, .string _), (5, .int _ _), (6, .int _ _)] ⟨rfl, rfl, rfl, rfl, trivial⟩ fun σ => ?_
                    refine greg ?_
                    refine gop (y_move (v := .int _ _) rfl) rfl rfl rfl ?_
                    refine gop (y_add rfl rfl ⟨by omega, by omega⟩) rfl rfl rfl ?_
                    refine gop (y_assign (v := .int _ _) rfl) rfl rfl rfl ?_
                    refine gops_nil ?_
                    refine gnext2 ((k + 1, valD 0 (D.take (k + 1)))) (by show D.length - (k + 1) < D.length - k; omega) (⟨by show k + 1 ≤ _; omega, by show k + 1 ≤ _; omega, fun c hc => by rw [List.take_succ_eq_append_getElem hk1] at hc; rcases List.mem_append.1 hc with h9 | h9; exact hz c h9; rw [List.mem_singleton.1 h9]; exact hdk, rfl⟩) ⟨(congrArg (Value.int .u64) (by omega)), rfl, trivial⟩ ⟨rfl, rfl, trivial⟩ ⟨_, rfl⟩
                · 
                  have hg45d := of_decide_eq_true hg45
                  refine gop_off rfl rfl rfl rfl hg45 rfl rfl ?_
                  refine gop (y_pick_t (v := .bool _) rfl hg45 rfl) rfl rfl rfl ?_
                  refine gops_nil ?_
                  refine hN40 _ _ ?_
                  refine gfrom [(0, .string s), (4, .string _), (5, .int _ _), (6, .int _ _), (48, .bool _)] ⟨rfl, rfl, rfl, rfl, rfl, trivial⟩ fun σ => ?_
                  refine gcond (b := _) rfl (fun hc48 => ?_) (fun hc48 => ?_)
                  · 
                    have hb2 : docBad2 s.data.toList := by
                      unfold docBad2
                      rw [hD]
                      rcases Nat.lt_or_ge 18 k with h9 | h9
                      · exact .inr (by omega)
                      · exact .inl ⟨D[k], List.getElem_mem hk1, fun h8 => by unfold Dig at h8; omega⟩
                    refine gseq fun N42 hN42 => ?_
                    refine greg ?_
                    refine gop (y_assign (v := .int _ _) rfl) rfl rfl rfl ?_
                    refine gop (y_assign (v := .bool _) rfl) rfl rfl rfl ?_
                    refine gops_nil ?_
                    refine hN42 _ _ ?_
                    refine gfrom [(2, .int _ _), (3, .bool _)] ⟨rfl, rfl, trivial⟩ fun σ => ?_
                    refine gret fun w1 hM => ?_
                    refine ⟨_, res2 rfl (rt (v := .int _ _) rfl) (rt (v := .bool _) rfl), ?_⟩
                    exact ⟨by rw [decN, dec_bad (.inr (.inl hb2))]; rfl, hM.low⟩
                  · 
                    cases hc48
              · 
                have hg39d := of_decide_eq_true hg39
                refine gop_off rfl rfl rfl rfl hg39 rfl rfl ?_
                refine gop_off rfl rfl rfl rfl hg39 rfl rfl ?_
                refine gop_off rfl rfl rfl rfl hg39 rfl rfl ?_
                refine gop (y_pick_t (v := .bool _) rfl hg39 rfl) rfl rfl rfl ?_
                refine gop (y_move (v := .bool _) rfl) rfl rfl rfl ?_
                refine gop_off rfl rfl rfl rfl rfl rfl rfl ?_
                refine gop_off rfl rfl rfl rfl rfl rfl rfl ?_
                refine gop (y_pick_t (v := .bool _) rfl rfl rfl) rfl rfl rfl ?_
                refine gops_nil ?_
                refine hN40 _ _ ?_
                refine gfrom [(0, .string s), (4, .string _), (5, .int _ _), (6, .int _ _), (48, .bool _)] ⟨rfl, rfl, rfl, rfl, rfl, trivial⟩ fun σ => ?_
                refine gcond (b := _) rfl (fun hc48 => ?_) (fun hc48 => ?_)
                · 
                  have hb2 : docBad2 s.data.toList := by
                    unfold docBad2
                    rw [hD]
                    rcases Nat.lt_or_ge 18 k with h9 | h9
                    · exact .inr (by omega)
                    · exact .inl ⟨D[k], List.getElem_mem hk1, fun h8 => by unfold Dig at h8; omega⟩
                  refine gseq fun N43 hN43 => ?_
                  refine greg ?_
                  refine gop (y_assign (v := .int _ _) rfl) rfl rfl rfl ?_
                  refine gop (y_assign (v := .bool _) rfl) rfl rfl rfl ?_
                  refine gops_nil ?_
                  refine hN43 _ _ ?_
                  refine gfrom [(2, .int _ _), (3, .bool _)] ⟨rfl, rfl, trivial⟩ fun σ => ?_
                  refine gret fun w1 hM => ?_
                  refine ⟨_, res2 rfl (rt (v := .int _ _) rfl) (rt (v := .bool _) rfl), ?_⟩
                  exact ⟨by rw [decN, dec_bad (.inr (.inl hb2))]; rfl, hM.low⟩
                · 
                  cases hc48
            · 
              replace hc32 := of_decide_eq_false hc32
              obtain rfl : k = D.length := by omega
              rw [List.take_length] at hz hu
              have hb2 : ¬ docBad2 s.data.toList := by
                unfold docBad2
                rw [hD]
                rintro (⟨c, h9, h8⟩ | h9)
                · exact h8 (hz c h9)
                · omega
              refine gexit ?_
              refine hN34 _ _ ?_
              refine gfrom [(0, .string s), (4, .string _), (5, .int _ _)] ⟨rfl, rfl, rfl, trivial⟩ fun σ => ?_
              refine gseq fun N44 hN44 => ?_
              refine gseq fun N45 hN45 => ?_
              refine greg ?_
              refine gop (y_move (v := .int _ _) rfl) rfl rfl rfl ?_
              refine gop (y_gtr rfl rfl) rfl rfl rfl ?_
              refine gop (y_move (v := .bool _) rfl) rfl rfl rfl ?_
              refine gop_if (want := false) rfl rfl rfl rfl rfl rfl (fun hg59 => ?_) (fun hg59 => ?_)
              · 
                have hg59d := of_decide_eq_false hg59
                refine gop (y_bare (y_move (v := .int _ _) rfl)) rfl rfl rfl ?_
                refine gop_on rfl rfl rfl rfl hg59 ?_
                refine gop (y_bare (y_eql rfl rfl)) rfl rfl rfl ?_
                refine gop_on rfl rfl rfl rfl hg59 ?_
                refine gop (y_bare (y_move (v := .bool _) rfl)) rfl rfl rfl ?_
                refine gop_if (want := true) rfl rfl rfl rfl rfl rfl (fun hg62 => ?_) (fun hg62 => ?_)
                · 
                  have hg62d := of_decide_eq_true hg62
                  refine gop (y_bare (y_move (v := .string _) rfl)) rfl rfl rfl ?_
                  refine gop_on rfl rfl rfl rfl hg62 ?_
                  refine gop (y_bare (y_move (v := .string s) rfl)) rfl rfl rfl ?_
                  refine gop_on rfl rfl rfl rfl hg62 ?_
                  refine gop (y_bare (y_eqls rfl rfl)) rfl rfl rfl ?_
                  refine gop_on rfl rfl rfl rfl hg59 ?_
                  refine gop (y_bare (y_pick_t (v := .bool _) rfl hg62 rfl)) rfl rfl rfl ?_
                  refine gop (y_pick_f (v := .bool _) rfl hg59 rfl) rfl rfl rfl ?_
                  refine gops_nil ?_
                  refine hN45 _ _ ?_
                  refine gfrom [(0, .string s), (4, .string _), (5, .int _ _), (67, .bool _)] ⟨rfl, rfl, rfl, rfl, trivial⟩ fun σ => ?_
                  refine gcond (b := _) rfl (fun hc67 => ?_) (fun hc67 => ?_)
                  · 
                    have hb3 : docBad3 s.data.toList := by
                      unfold docBad3
                      rw [hD]
                      first
                      | exact .inl (by omega)
                      | exact .inr ⟨by omega, by rw [strEq_dec] at hc67; exact baL_inj ((of_decide_eq_true hc67).trans (baL_self s).symm)⟩
                    refine gseq fun N46 hN46 => ?_
                    refine greg ?_
                    refine gop (y_assign (v := .int _ _) rfl) rfl rfl rfl ?_
                    refine gop (y_assign (v := .bool _) rfl) rfl rfl rfl ?_
                    refine gops_nil ?_
                    refine hN46 _ _ ?_
                    refine gfrom [(2, .int _ _), (3, .bool _)] ⟨rfl, rfl, trivial⟩ fun σ => ?_
                    refine gret fun w1 hM => ?_
                    refine ⟨_, res2 rfl (rt (v := .int _ _) rfl) (rt (v := .bool _) rfl), ?_⟩
                    exact ⟨by rw [decN, dec_bad (.inr (.inr hb3))]; rfl, hM.low⟩
                  · 
                    have hb3 : ¬ docBad3 s.data.toList := by
                      unfold docBad3
                      rw [hD]
                      rintro (h9 | ⟨h9, h8⟩)
                      · omega
                      · first
                        | omega
                        | (rw [strEq_dec] at hc67; exact of_decide_eq_false hc67 (by rw [h8]; exact baL_self s))
                    obtain ⟨his, hv1, hv2⟩ := dec_val hb1 hb2 hb3
                    rw [hD] at hv1 hv2
                    refine gskip ?_
                    refine hN44 _ _ ?_
                    refine gfrom [(0, .string s), (4, .string _), (5, .int _ _)] ⟨rfl, rfl, rfl, trivial⟩ fun σ => ?_
                    refine gseq fun N47 hN47 => ?_
                    refine gseq fun N48 hN48 => ?_
                    refine greg ?_
                    refine gop (y_move (v := .string _) rfl) rfl rfl rfl ?_
                    refine gop (y_move (v := .string s) rfl) rfl rfl rfl ?_
                    refine gop (y_neqs rfl rfl) rfl rfl rfl ?_
                    refine gop (y_move (v := .bool _) rfl) rfl rfl rfl ?_
                    refine gop_if (want := false) rfl rfl rfl rfl rfl rfl (fun hg71 => ?_) (fun hg71 => ?_)
                    · 
                      have hg71d := hg71
                      have hDs2 : baL D = s := by
                        have h9 := hg71d
                        rw [strEq_dec] at h9
                        simpa using h9
                      refine gop (y_bare (y_move (v := .int _ _) rfl)) rfl rfl rfl ?_
                      refine gop_on rfl rfl rfl rfl hg71 ?_
                      refine gop (y_bare (y_gtr rfl rfl)) rfl rfl rfl ?_
                      refine gop (y_pick_f (v := .bool _) rfl hg71 rfl) rfl rfl rfl ?_
                      refine gops_nil ?_
                      refine hN48 _ _ ?_
                      refine gfrom [(5, .int _ _), (74, .bool _)] ⟨rfl, rfl, trivial⟩ fun σ => ?_
                      refine gcond (b := _) rfl (fun hc74 => ?_) (fun hc74 => ?_)
                      · 
                        replace hc74 := of_decide_eq_true hc74
                        have hdn : decN s = 99 := by first | exact hv1 (.inl hDs3) | exact hv1 (.inr (by omega))
                        refine gseq fun N49 hN49 => ?_
                        refine greg ?_
                        refine gop (y_assign (v := .int _ _) rfl) rfl rfl rfl ?_
                        refine gop (y_assign (v := .bool _) rfl) rfl rfl rfl ?_
                        refine gops_nil ?_
                        refine hN49 _ _ ?_
                        refine gfrom [(2, .int _ _), (3, .bool _)] ⟨rfl, rfl, trivial⟩ fun σ => ?_
                        refine gret fun w1 hM => ?_
                        refine ⟨_, res2 rfl (rt (v := .int _ _) rfl) (rt (v := .bool _) rfl), ?_⟩
                        exact ⟨by rw [hdn, his], hM.low⟩
                      · 
                        replace hc74 := of_decide_eq_false hc74
                        have hdn : decN s = (u : Int) := by rw [hu]; exact hv2 hDs2 (by omega)
                        refine gskip ?_
                        refine hN47 _ _ ?_
                        refine gfrom [(5, .int _ _)] ⟨rfl, trivial⟩ fun σ => ?_
                        refine gseq fun N50 hN50 => ?_
                        refine greg ?_
                        refine gop (y_move (v := .int _ _) rfl) rfl rfl rfl ?_
                        refine gop (y_uInt (by kernel_rfl) Tryd.underlying3 rfl (by omega) (by omega)) rfl rfl rfl ?_
                        refine gop (y_assign (v := .int _ _) rfl) rfl rfl rfl ?_
                        refine gop (y_assign (v := .bool _) rfl) rfl rfl rfl ?_
                        refine gops_nil ?_
                        refine hN50 _ _ ?_
                        refine gfrom [(2, .int _ _), (3, .bool _)] ⟨rfl, rfl, trivial⟩ fun σ => ?_
                        refine gret fun w1 hM => ?_
                        refine ⟨_, res2 rfl (rt (v := .int _ _) rfl) (rt (v := .bool _) rfl), ?_⟩
                        exact ⟨by rw [hdn, his], hM.low⟩
                    · 
                      have hg71d := hg71
                      have hDs3 : baL D ≠ s := by
                        have h9 := hg71d
                        rw [strEq_dec] at h9
                        simpa using h9
                      refine gop_off rfl rfl rfl rfl hg71 rfl rfl ?_
                      refine gop (y_pick_t (v := .bool _) rfl hg71 rfl) rfl rfl rfl ?_
                      refine gops_nil ?_
                      refine hN48 _ _ ?_
                      refine gfrom [(5, .int _ _), (74, .bool _)] ⟨rfl, rfl, trivial⟩ fun σ => ?_
                      refine gcond (b := _) rfl (fun hc74 => ?_) (fun hc74 => ?_)
                      · 
                        have hdn : decN s = 99 := by first | exact hv1 (.inl hDs3) | exact hv1 (.inr (by omega))
                        refine gseq fun N51 hN51 => ?_
                        refine greg ?_
                        refine gop (y_assign (v := .int _ _) rfl) rfl rfl rfl ?_
                        refine gop (y_assign (v := .bool _) rfl) rfl rfl rfl ?_
                        refine gops_nil ?_
                        refine hN51 _ _ ?_
                        refine gfrom [(2, .int _ _), (3, .bool _)] ⟨rfl, rfl, trivial⟩ fun σ => ?_
                        refine gret fun w1 hM => ?_
                        refine ⟨_, res2 rfl (rt (v := .int _ _) rfl) (rt (v := .bool _) rfl), ?_⟩
                        exact ⟨by rw [hdn, his], hM.low⟩
                      · 
                        cases hc74
                · 
                  have hg62d := of_decide_eq_false hg62
                  refine gop_off rfl rfl rfl rfl hg62 rfl rfl ?_
                  refine gop_off rfl rfl rfl rfl hg62 rfl rfl ?_
                  refine gop_on rfl rfl rfl rfl hg59 ?_
                  refine gop (y_bare (y_pick_f (v := .bool _) rfl hg62 rfl)) rfl rfl rfl ?_
                  refine gop (y_pick_f (v := .bool _) rfl hg59 rfl) rfl rfl rfl ?_
                  refine gops_nil ?_
                  refine hN45 _ _ ?_
                  refine gfrom [(0, .string s), (4, .string _), (5, .int _ _), (67, .bool _)] ⟨rfl, rfl, rfl, rfl, trivial⟩ fun σ => ?_
                  refine gcond (b := _) rfl (fun hc67 => ?_) (fun hc67 => ?_)
                  · 
                    cases hc67
                  · 
                    have hb3 : ¬ docBad3 s.data.toList := by
                      unfold docBad3
                      rw [hD]
                      rintro (h9 | ⟨h9, h8⟩)
                      · omega
                      · first
                        | omega
                        | (rw [strEq_dec] at hc67; exact of_decide_eq_false hc67 (by rw [h8]; exact baL_self s))
                    obtain ⟨his, hv1, hv2⟩ := dec_val hb1 hb2 hb3
                    rw [hD] at hv1 hv2
                    refine gskip ?_
                    refine hN44 _ _ ?_
                    refine gfrom [(0, .string s), (4, .string _), (5, .int _ _)] ⟨rfl, rfl, rfl, trivial⟩ fun σ => ?_
                    refine gseq fun N52 hN52 => ?_
                    refine gseq fun N53 hN53 => ?_
                    refine greg ?_
                    refine gop (y_move (v := .string _) rfl) rfl rfl rfl ?_
                    refine gop (y_move (v := .string s) rfl) rfl rfl rfl ?_
                    refine gop (y_neqs rfl rfl) rfl rfl rfl ?_
                    refine gop (y_move (v := .bool _) rfl) rfl rfl rfl ?_
                    refine gop_if (want := false) rfl rfl rfl rfl rfl rfl (fun hg71 => ?_) (fun hg71 => ?_)
                    · 
                      have hg71d := hg71
                      have hDs2 : baL D = s := by
                        have h9 := hg71d
                        rw [strEq_dec] at h9
                        simpa using h9
                      refine gop (y_bare (y_move (v := .int _ _) rfl)) rfl rfl rfl ?_
                      refine gop_on rfl rfl rfl rfl hg71 ?_
                      refine gop (y_bare (y_gtr rfl rfl)) rfl rfl rfl ?_
                      refine gop (y_pick_f (v := .bool _) rfl hg71 rfl) rfl rfl rfl ?_
                      refine gops_nil ?_
                      refine hN53 _ _ ?_
                      refine gfrom [(5, .int _ _), (74, .bool _)] ⟨rfl, rfl, trivial⟩ fun σ => ?_
                      refine gcond (b := _) rfl (fun hc74 => ?_) (fun hc74 => ?_)
                      · 
                        replace hc74 := of_decide_eq_true hc74
                        have hdn : decN s = 99 := by first | exact hv1 (.inl hDs3) | exact hv1 (.inr (by omega))
                        refine gseq fun N54 hN54 => ?_
                        refine greg ?_
                        refine gop (y_assign (v := .int _ _) rfl) rfl rfl rfl ?_
                        refine gop (y_assign (v := .bool _) rfl) rfl rfl rfl ?_
                        refine gops_nil ?_
                        refine hN54 _ _ ?_
                        refine gfrom [(2, .int _ _), (3, .bool _)] ⟨rfl, rfl, trivial⟩ fun σ => ?_
                        refine gret fun w1 hM => ?_
                        refine ⟨_, res2 rfl (rt (v := .int _ _) rfl) (rt (v := .bool _) rfl), ?_⟩
                        exact ⟨by rw [hdn, his], hM.low⟩
                      · 
                        replace hc74 := of_decide_eq_false hc74
                        have hdn : decN s = (u : Int) := by rw [hu]; exact hv2 hDs2 (by omega)
                        refine gskip ?_
                        refine hN52 _ _ ?_
                        refine gfrom [(5, .int _ _)] ⟨rfl, trivial⟩ fun σ => ?_
                        refine gseq fun N55 hN55 => ?_
                        refine greg ?_
                        refine gop (y_move (v := .int _ _) rfl) rfl rfl rfl ?_
                        refine gop (y_uInt (by kernel_rfl) Tryd.underlying3 rfl (by omega) (by omega)) rfl rfl rfl ?_
                        refine gop (y_assign (v := .int _ _) rfl) rfl rfl rfl ?_
                        refine gop (y_assign (v := .bool _) rfl) rfl rfl rfl ?_
                        refine gops_nil ?_
                        refine hN55 _ _ ?_
                        refine gfrom [(2, .int _ _), (3, .bool _)] ⟨rfl, rfl, trivial⟩ fun σ => ?_
                        refine gret fun w1 hM => ?_
                        refine ⟨_, res2 rfl (rt (v := .int _ _) rfl) (rt (v := .bool _) rfl), ?_⟩
                        exact ⟨by rw [hdn, his], hM.low⟩
                    · 
                      have hg71d := hg71
                      have hDs3 : baL D ≠ s := by
                        have h9 := hg71d
                        rw [strEq_dec] at h9
                        simpa using h9
                      refine gop_off rfl rfl rfl rfl hg71 rfl rfl ?_
                      refine gop (y_pick_t (v := .bool _) rfl hg71 rfl) rfl rfl rfl ?_
                      refine gops_nil ?_
                      refine hN53 _ _ ?_
                      refine gfrom [(5, .int _ _), (74, .bool _)] ⟨rfl, rfl, trivial⟩ fun σ => ?_
                      refine gcond (b := _) rfl (fun hc74 => ?_) (fun hc74 => ?_)
                      · 
                        have hdn : decN s = 99 := by first | exact hv1 (.inl hDs3) | exact hv1 (.inr (by omega))
                        refine gseq fun N56 hN56 => ?_
                        refine greg ?_
                        refine gop (y_assign (v := .int _ _) rfl) rfl rfl rfl ?_
                        refine gop (y_assign (v := .bool _) rfl) rfl rfl rfl ?_
                        refine gops_nil ?_
                        refine hN56 _ _ ?_
                        refine gfrom [(2, .int _ _), (3, .bool _)] ⟨rfl, rfl, trivial⟩ fun σ => ?_
                        refine gret fun w1 hM => ?_
                        refine ⟨_, res2 rfl (rt (v := .int _ _) rfl) (rt (v := .bool _) rfl), ?_⟩
                        exact ⟨by rw [hdn, his], hM.low⟩
                      · 
                        cases hc74
              · 
                have hg59d := of_decide_eq_true hg59
                refine gop_off rfl rfl rfl rfl hg59 rfl rfl ?_
                refine gop_off rfl rfl rfl rfl hg59 rfl rfl ?_
                refine gop_offu rfl rfl rfl rfl rfl rfl ?_
                refine gop_offu rfl rfl rfl rfl rfl rfl ?_
                refine gop_offu rfl rfl rfl rfl rfl rfl ?_
                refine gop_off rfl rfl rfl rfl hg59 rfl rfl ?_
                refine gop (y_pick_t (v := .bool _) rfl hg59 rfl) rfl rfl rfl ?_
                refine gops_nil ?_
                refine hN45 _ _ ?_
                refine gfrom [(0, .string s), (4, .string _), (5, .int _ _), (67, .bool _)] ⟨rfl, rfl, rfl, rfl, trivial⟩ fun σ => ?_
                refine gcond (b := _) rfl (fun hc67 => ?_) (fun hc67 => ?_)
                · 
                  have hb3 : docBad3 s.data.toList := by
                    unfold docBad3
                    rw [hD]
                    first
                    | exact .inl (by omega)
                    | exact .inr ⟨by omega, by rw [strEq_dec] at hc67; exact baL_inj ((of_decide_eq_true hc67).trans (baL_self s).symm)⟩
                  refine gseq fun N57 hN57 => ?_
                  refine greg ?_
                  refine gop (y_assign (v := .int _ _) rfl) rfl rfl rfl ?_
                  refine gop (y_assign (v := .bool _) rfl) rfl rfl rfl ?_
                  refine gops_nil ?_
                  refine hN57 _ _ ?_
                  refine gfrom [(2, .int _ _), (3, .bool _)] ⟨rfl, rfl, trivial⟩ fun σ => ?_
                  refine gret fun w1 hM => ?_
                  refine ⟨_, res2 rfl (rt (v := .int _ _) rfl) (rt (v := .bool _) rfl), ?_⟩
                  exact ⟨by rw [decN, dec_bad (.inr (.inr hb3))]; rfl, hM.low⟩
                · 
                  cases hc67
    · 
      have hg20d := hg20
      refine gop_off rfl rfl rfl rfl hg20 rfl rfl ?_
      refine gop_off rfl rfl rfl rfl hg20 rfl rfl ?_
      refine gop_off rfl rfl rfl rfl hg20 rfl rfl ?_
      refine gop_offu rfl rfl rfl rfl rfl rfl ?_
      refine gop_offu rfl rfl rfl rfl rfl rfl ?_
      refine gop_off rfl rfl rfl rfl hg20 rfl rfl ?_
      refine gop (y_pick_t (v := .bool _) rfl hg20 rfl) rfl rfl rfl ?_
      refine gops_nil ?_
      refine hN6 _ _ ?_
      refine gT [] rfl ?_
      refine gfrom [(0, .string s), (4, .string _), (28, .bool _)] ⟨rfl, rfl, rfl, trivial⟩ fun σ => ?_
      refine gcond (b := _) rfl (fun hc28 => ?_) (fun hc28 => ?_)
      · 
        have hb1 : docBad1 s.data.toList := by
          unfold docBad1
          rw [hD]
          first
          | exact .inl (of_decide_eq_true (by rw [← f1]; assumption))
          | exact .inr ⟨(f3 hne).1 (by omega), of_decide_eq_true (by rw [← f2]; assumption)⟩
        refine gseq fun N58 hN58 => ?_
        refine greg ?_
        refine gop (y_assign (v := .int _ _) rfl) rfl rfl rfl ?_
        refine gop (y_assign (v := .bool _) rfl) rfl rfl rfl ?_
        refine gops_nil ?_
        refine hN58 _ _ ?_
        refine gfrom [(2, .int _ _), (3, .bool _)] ⟨rfl, rfl, trivial⟩ fun σ => ?_
        refine gret fun w1 hM => ?_
        refine ⟨_, res2 rfl (rt (v := .int _ _) rfl) (rt (v := .bool _) rfl), ?_⟩
        exact ⟨by rw [decN, dec_bad (.inl hb1)]; rfl, hM.low⟩
      · 
        cases hc28
end Go.Proofs.YtllblbkbglifjaaDoor
namespace Go.Cf
open Go.RowKit
def nodesOf (ω : List Tr) : List PN := postAll ω.reverse 0
def opsOf (ω : List Tr) : List Int := ends ω.reverse 0
theorem nodes_len (ω : List Tr) : (nodesOf ω).length = total ω.reverse := postAll_len _ _
theorem total_rev : ∀ ω : List Tr, total ω.reverse = total ω
  | [] => rfl
  | t :: ω => by rw [List.reverse_cons, total_app, total_rev ω, total]; simp only [total]; omega
theorem ops_len (ω : List Tr) : (opsOf ω).length = ω.length := by rw [opsOf, ends_len, List.length_reverse]
theorem total_ge : ∀ ω : List Tr, ω.length ≤ total ω
  | [] => Nat.le_refl _
  | t :: ω => by have := total_ge ω; have := t.pos; rw [List.length_cons, total]; omega
theorem nodes_push (t : Tr) (ω : List Tr) : nodesOf (t :: ω) = nodesOf ω ++ post t (nodesOf ω).length := by
  rw [nodes_len, nodesOf, List.reverse_cons, postAll_app, nodesOf]
  simp only [postAll, List.append_nil, Nat.zero_add]
theorem ops_push (t : Tr) (ω : List Tr) : opsOf (t :: ω) = opsOf ω ++ [(((nodesOf ω).length + t.size : Nat) : Int) - 1] := by
  rw [nodes_len, opsOf, List.reverse_cons, ends_app, opsOf]
  simp only [ends, Nat.zero_add]
theorem push_leafN (k n : Int) (ω : List Tr) : nodesOf (.leaf k n :: ω) = nodesOf ω ++ [⟨k, n, 0, 0⟩] ∧ opsOf (.leaf k n :: ω) = opsOf ω ++ [((nodesOf ω).length : Int)] := by
  rw [nodes_push, ops_push]
  refine ⟨rfl, ?_⟩
  simp only [Tr.size]
  congr 2
  omega
theorem push_negN (t : Tr) (ω : List Tr) : nodesOf (.neg t :: ω) = nodesOf (t :: ω) ++ [⟨5, 0, (((nodesOf ω).length + t.size : Nat) : Int) - 1, 0⟩] ∧ opsOf (.neg t :: ω) = opsOf ω ++ [((nodesOf (t :: ω)).length : Int)] := by
  rw [nodes_push, ops_push, nodes_push]
  refine ⟨by rw [post, List.append_assoc], ?_⟩
  rw [List.length_append, post_len, size_neg]
  congr 2
  omega
theorem push_binN (k : Int) (a b : Tr) (ω : List Tr) : nodesOf (.bin k a b :: ω) = nodesOf (b :: a :: ω) ++ [⟨k, 0, (((nodesOf ω).length + a.size : Nat) : Int) - 1, (((nodesOf (a :: ω)).length + b.size : Nat) : Int) - 1⟩] ∧ opsOf (.bin k a b :: ω) = opsOf ω ++ [((nodesOf (b :: a :: ω)).length : Int)] := by
  have e : (nodesOf (a :: ω)).length = (nodesOf ω).length + a.size := by rw [nodes_push, List.length_append, post_len]
  rw [nodes_push, ops_push, nodes_push b, e, nodes_push a]
  refine ⟨by rw [post]; simp only [List.append_assoc], ?_⟩
  rw [List.length_append, List.length_append, post_len, post_len, size_bin]
  congr 2
  omega
theorem ops_two (a b : Tr) (ω : List Tr) : opsOf (b :: a :: ω) = opsOf ω ++ [(((nodesOf ω).length + a.size : Nat) : Int) - 1, (((nodesOf (a :: ω)).length + b.size : Nat) : Int) - 1] := by
  rw [ops_push b, ops_push a, List.append_assoc]; rfl
theorem ops_last (b : Tr) (ω : List Tr) : (opsOf (b :: ω))[ω.length]? = some ((((nodesOf ω).length + b.size : Nat) : Int) - 1) := by
  rw [ops_push, List.getElem?_append_right (by rw [ops_len]; exact Nat.le_refl _), ops_len, Nat.sub_self]; rfl
theorem ops_second (a b : Tr) (ω : List Tr) : (opsOf (b :: a :: ω))[ω.length]? = some ((((nodesOf ω).length + a.size : Nat) : Int) - 1) := by
  rw [ops_push b, List.getElem?_append_left (by rw [ops_len, List.length_cons]; omega)]; exact ops_last a ω
theorem rev_last (s : ByteArray) (σ : List ByteArray) : (s :: σ).reverse[σ.length]? = some s := by
  rw [List.reverse_cons, List.getElem?_append_right (by simp)]; simp
theorem fresh_some {A : Option Addr} {l : List Value} (h : Fresh A) (hn : A = none → l = []) (hl : l ≠ []) : ∃ g, A = some ⟨g, 0, none⟩ := by
  rcases h with h | h
  · exact absurd (hn h) hl
  · exact h
def bins : List ByteArray → Nat
  | [] => 0
  | s :: σ => (if s = wNot ∨ s = wL then 0 else 1) + bins σ
theorem row_fresh {α : Type} {f : α → List Value} {l : List α} {base size n c : Nat} {e : TypeId} {A : Option Addr} {w : World} (h : (rowl f base e size (.slice A n c) l).ok w) : Fresh A ∧ (A = none → l.flatMap f = []) := by
  have h' : w.ownsRow base e size (.slice A n c) l.length (l.flatMap f) := h
  rcases h'.2 with ⟨h1, h2⟩ | ⟨g, cap, cur, h1, _⟩
  · simp only [Value.slice.injEq] at h1
    exact ⟨.inl h1.1, fun _ => by rw [List.eq_nil_of_length_eq_zero h2]; rfl⟩
  · simp only [Value.slice.injEq] at h1
    exact ⟨.inr ⟨g, h1.1⟩, fun h => by rw [h] at h1; cases h1.1⟩
theorem ghe_mem {P : Program} {n : Fr} {w0 : World} {full : Array Oper} {marks : List Nat} {TS : List (List Reg)} {fuel k : Nat} {listed : Array Bool} {N : Env → World → Prop} {ρ : Env} {T : List Reg} (T' : List Reg) (hT : Weak w0 T T') (h : ghe P n w0 full marks TS fuel k listed N ρ T') : ghe P n w0 full marks TS fuel k listed N ρ T := fun w hM => h w (hT w hM)
end Go.Cf
namespace Go.Proofs.YtllblbkbglifjaaDoor
open Go.RowKit Go.Cf
abbrev bldE (bg base : Nat) (A1 : Option Addr) (c1 : Nat) (A2 : Option Addr) (c2 : Nat) (A3 : Option Addr) (c3 : Nat) (N : List PN) (O : List Int) (S : List ByteArray) : List Reg :=
  [box bg (.cells #[.slice A1 N.length c1, .slice A2 O.length c2, .slice A3 S.length c3] 69), rowl pnCells base 47 4 (.slice A1 N.length c1) N, rowl intCells base 3 1 (.slice A2 O.length c2) O, rowl strCells base 9 1 (.slice A3 S.length c3) S]
end Go.Proofs.YtllblbkbglifjaaDoor
namespace Go.Proofs.YtllblbkbglifjaaDoor
open Go.RowKit Go.Cf
set_option maxRecDepth 10000
theorem fa69_1 (a : Addr) (w : World) : (Instr.fieldAt 69 (.pointer (some a)) 1).run Tryd.prog w = .ok (.pointer (some (a.add 1))) w := by kernel_rfl
theorem fa69_0 (a : Addr) (w : World) : (Instr.fieldAt 69 (.pointer (some a)) 0).run Tryd.prog w = .ok (.pointer (some (a.add 0))) w := by kernel_rfl
set_option maxHeartbeats 8000000 in
theorem refLeaf_any (w0 w : World) (bg : Nat) (A1 A2 A3 : Option Addr) (c1 c2 c3 : Nat) (N : List PN) (O : List Int) (S : List ByteArray) (fr : Reg) (hM1 : Mem w0 [pk (bldE bg w0.heap.size A1 c1 A2 c2 A3 c3 (N) (O) (S)), fr] w) (hN : N.length ≤ 1000) (hO : O.length ≤ 1000) (n : PN) :
    Calls Tryd.prog 34 #[.pointer (some ⟨bg, 0, none⟩), pnV n] w fun e w' => e = .returned (.tuple #[]) ∧ ∃ B1 B2 d1 d2, Mem w0 [pk (bldE bg w0.heap.size B1 d1 B2 d2 A3 c3 (N ++ [n]) (O ++ [(N.length : Int)]) (S)), fr] w' := by
  have hM0 := hM1.unpk
  refine gcallsT Tryd.func34 rfl Tryd.ntmps34 (Nat.le_of_ble_eq_true rfl) hM0 ?_
  refine gfrom [(0, .pointer (some ⟨bg, 0, none⟩)), (1, .agg #[_, _, _, _])] ⟨rfl, rfl, trivial⟩ fun σ => ?_
  refine gseq fun N1 hN1 => ?_
  refine greg ?_
  refine gop_box (v := .agg #[_, _, _, _]) (cs := #[_, _, _, _]) rfl rfl rfl (fun b3 hb3 => ?_)
  refine gops_nil ?_
  refine hN1 _ _ ?_
  refine gT [box bg _, rowl _ _ _ _ _ _, rowl _ _ _ _ _ _, rowl _ _ _ _ _ _, fr, box b3 _] rfl ?_
  refine gfrom [(0, .pointer (some ⟨bg, 0, none⟩)), (3, .pointer _)] ⟨rfl, rfl, trivial⟩ fun σ => ?_
  refine gseq fun N2 hN2 => ?_
  refine greg_e1 [14] [(2, emp)] (by kernel_rfl) ?_
  refine ge_take 0 (TK := [box bg _, rowl _ _ _ _ _ _, emp, rowl _ _ _ _ _ _, fr, box b3 _]) rfl (by kernel_rfl) (by kernel_rfl) (by kernel_rfl) #[false, true, true, true, true, true, true, true, true, true, true, true, false, false, false] (by kernel_rfl) rfl (y_move (v := .pointer (some ⟨bg, 0, none⟩)) rfl) rfl rfl rfl (weak_emp 2 rfl) (listed' := #[true, false, false, false, false, false, false, false, false, false, false, false, false, false, false]) rfl ?_
  refine ge_take 1 (TK := [box bg _, rowl _ _ _ _ _ _, emp, rowl _ _ _ _ _ _, fr, box b3 _]) rfl (by kernel_rfl) (by kernel_rfl) (by kernel_rfl) #[true, false, false, false, false, true, true, true, true, true, true, false, false, false, false] (by kernel_rfl) rfl (y_move (v := .pointer (some ⟨bg, 0, none⟩)) rfl) rfl rfl rfl (weak_emp 2 rfl) (listed' := #[true, true, false, false, false, false, false, false, false, false, false, false, false, false, false]) rfl ?_
  refine ge_take 2 (TK := [box bg _, rowl _ _ _ _ _ _, emp, rowl _ _ _ _ _ _, fr, box b3 _]) rfl (by kernel_rfl) (by kernel_rfl) (by kernel_rfl) #[true, true, false, false, false, true, true, true, true, true, true, false, false, false, false] (by kernel_rfl) rfl (y_nilCheck rfl) rfl rfl rfl (weak_emp 2 rfl) (listed' := #[true, true, true, false, false, false, false, false, false, false, false, false, false, false, false]) rfl ?_
  refine ge_take 3 (TK := [box bg _, rowl _ _ _ _ _ _, emp, rowl _ _ _ _ _ _, fr, box b3 _]) rfl (by kernel_rfl) (by kernel_rfl) (by kernel_rfl) #[true, true, true, false, false, true, true, true, true, true, true, false, false, false, false] (by kernel_rfl) rfl (y_fieldAddr_box fa69_1 rfl) rfl rfl rfl (weak_emp 2 rfl) (listed' := #[true, true, true, true, false, false, false, false, false, false, false, false, false, false, false]) rfl ?_
  refine ge_take 4 (TK := [box bg _, rowl _ _ _ _ _ _, emp, rowl _ _ _ _ _ _, fr, box b3 _]) rfl (by kernel_rfl) (by kernel_rfl) (by kernel_rfl) #[true, true, true, true, false, true, true, true, true, true, true, false, false, false, false] (by kernel_rfl) rfl (y_load Tryd.isAgg55 rfl (cell_box 0 rfl rfl)) rfl rfl rfl (weak_emp 2 rfl) (listed' := #[true, true, true, true, true, false, false, false, false, false, false, false, false, false, false]) rfl ?_
  refine ge_take 5 (TK := [box bg _, rowl _ _ _ _ _ _, emp, rowl _ _ _ _ _ _, fr, box b3 _]) rfl (by kernel_rfl) (by kernel_rfl) (by kernel_rfl) #[true, true, true, true, true, false, false, false, false, false, false, false, false, false, false] (by kernel_rfl) rfl (y_move (v := .pointer (some ⟨bg, 0, none⟩)) rfl) rfl rfl rfl (weak_emp 2 rfl) (listed' := #[true, true, true, true, true, true, false, false, false, false, false, false, false, false, false]) rfl ?_
  refine ge_take 6 (TK := [box bg _, rowl _ _ _ _ _ _, emp, rowl _ _ _ _ _ _, fr, box b3 _]) rfl (by kernel_rfl) (by kernel_rfl) (by kernel_rfl) #[true, true, true, true, true, true, false, false, false, false, false, false, false, false, false] (by kernel_rfl) rfl (y_nilCheck rfl) rfl rfl rfl (weak_emp 2 rfl) (listed' := #[true, true, true, true, true, true, true, false, false, false, false, false, false, false, false]) rfl ?_
  refine ge_take 7 (TK := [box bg _, rowl _ _ _ _ _ _, emp, rowl _ _ _ _ _ _, fr, box b3 _]) rfl (by kernel_rfl) (by kernel_rfl) (by kernel_rfl) #[true, true, true, true, true, true, true, false, false, false, false, false, false, false, false] (by kernel_rfl) rfl (y_fieldAddr_box fa69_0 rfl) rfl rfl rfl (weak_emp 2 rfl) (listed' := #[true, true, true, true, true, true, true, true, false, false, false, false, false, false, false]) rfl ?_
  refine ge_take 8 (TK := [box bg _, rowl _ _ _ _ _ _, emp, rowl _ _ _ _ _ _, fr, box b3 _]) rfl (by kernel_rfl) (by kernel_rfl) (by kernel_rfl) #[true, true, true, true, true, true, true, true, false, false, false, false, false, false, false] (by kernel_rfl) rfl (y_load Tryd.isAgg22 rfl (cell_box 0 rfl rfl)) rfl rfl rfl (weak_emp 2 rfl) (listed' := #[true, true, true, true, true, true, true, true, true, false, false, false, false, false, false]) rfl ?_
  refine ge_take 9 (TK := [box bg _, rowl _ _ _ _ _ _, emp, rowl _ _ _ _ _ _, fr, box b3 _]) rfl (by kernel_rfl) (by kernel_rfl) (by kernel_rfl) #[true, true, true, true, true, true, true, true, true, false, false, false, false, false, false] (by kernel_rfl) rfl (y_len Tryd.underlying22 rfl) rfl rfl rfl (weak_emp 2 rfl) (listed' := #[true, true, true, true, true, true, true, true, true, true, false, false, false, false, false]) rfl ?_
  refine ge_one 10 (k' := 0) (listed' := #[true, true, true, true, true, true, true, true, true, true, true, false, false, false, false]) (by kernel_rfl) rfl rfl rfl ?_
  refine gop_lit (vs := [.int _ _]) (cells := #[_]) Tryd.underlying55 Tryd.sizeOf3 Tryd.zeroValue3 rfl (by decide) (by decide) rfl rfl rfl rfl (fun b14 hb14 => ?_)
  refine gops_nil ?_
  refine ge_fin (TK := [box bg _, rowl _ _ _ _ _ _, emp, rowl _ _ _ _ _ _, fr, box b3 _]) rfl (weak_trans (weak_take (T' := [box bg _, rowl _ _ _ _ _ _, rowl _ _ _ _ _ _, rowl _ _ _ _ _ _, fr, box b3 _]) rfl) (weak_emp 2 rfl)) ?_
  refine ge_one 11 (k' := 0) (listed' := #[true, true, true, true, true, true, true, true, true, true, true, true, false, false, false]) (by kernel_rfl) rfl rfl rfl ?_
  refine gop_append 2 (f := intCells) (l2 := [(N.length : Int)]) Tryd.underlying55 el3 wide_int (v := .slice _ _ _) rfl rfl rfl rfl (fun h => by cases h) (by simp [maxLen]; omega) (by simp; omega) (src_box 6 rfl rfl) rfl (fun v15 => ?_)
  refine gops_fact (fun w hM => own_form (hM.own 2 rfl)) ?_
  rintro ⟨A15, c15, rfl, hc15, hm15⟩
  refine gops_nil ?_
  refine ge_fin (TK := [box bg _, rowl _ _ _ _ _ _, emp, rowl _ _ _ _ _ _, fr, box b3 _]) rfl (weak_trans (weak_take (T' := [box bg _, rowl _ _ _ _ _ _, rowl _ _ _ _ _ _, rowl _ _ _ _ _ _, fr, box b3 _]) rfl) (weak_emp 2 rfl)) ?_
  refine ge_take 12 (TK := [box bg _, rowl _ _ _ _ _ _, emp, rowl _ _ _ _ _ _, fr, box b3 _]) rfl (by kernel_rfl) (by kernel_rfl) (by kernel_rfl) #[true, true, true, true, true, true, true, true, true, true, true, true, false, false, false] (by kernel_rfl) rfl (y_nilCheck rfl) rfl rfl rfl (weak_trans (weak_take (T' := [box bg _, rowl _ _ _ _ _ _, rowl _ _ _ _ _ _, rowl _ _ _ _ _ _, fr, box b3 _]) rfl) (weak_emp 2 rfl)) (listed' := #[true, true, true, true, true, true, true, true, true, true, true, true, true, false, false]) rfl ?_
  refine ge_take 13 (TK := [box bg _, rowl _ _ _ _ _ _, emp, rowl _ _ _ _ _ _, fr, box b3 _]) rfl (by kernel_rfl) (by kernel_rfl) (by kernel_rfl) #[true, true, true, true, true, true, true, true, true, true, true, true, true, false, false] (by kernel_rfl) rfl (y_fieldAddr_box fa69_1 rfl) rfl rfl rfl (weak_trans (weak_take (T' := [box bg _, rowl _ _ _ _ _ _, rowl _ _ _ _ _ _, rowl _ _ _ _ _ _, fr, box b3 _]) rfl) (weak_emp 2 rfl)) (listed' := #[true, true, true, true, true, true, true, true, true, true, true, true, true, true, false]) rfl ?_
  refine ge_one 14 (k' := 1) (listed' := #[true, true, true, true, true, true, true, true, true, true, true, true, true, true, true]) (by kernel_rfl) rfl rfl rfl ?_
  refine gop_store 0 (v := .slice A15 _ c15) (cs' := #[_, _, _]) rfl rfl Tryd.sizeOf55 rfl rfl rfl rfl (Nat.le_of_ble_eq_true rfl) rfl rfl ?_
  refine gops_nil ?_
  refine ge_fin (TK := []) rfl (weak_nil) ?_
  refine ge_done (by kernel_rfl) ?_
  refine hN2 _ _ ?_
  refine gT [box bg _, rowl _ _ _ _ _ _, rowl _ _ _ _ _ _, rowl _ _ _ _ _ _, fr, box b3 _, box b14 _] rfl ?_
  refine gfrom [(0, .pointer (some ⟨bg, 0, none⟩)), (3, .pointer _)] ⟨rfl, rfl, trivial⟩ fun σ => ?_
  refine greg_e1 [10] [(1, emp)] (by kernel_rfl) ?_
  refine ge_take 0 (TK := [box bg _, emp, rowl _ _ _ _ _ _, rowl _ _ _ _ _ _, fr, box b3 _, box b14 _]) rfl (by kernel_rfl) (by kernel_rfl) (by kernel_rfl) #[false, true, true, true, true, true, true, true, false, false, false] (by kernel_rfl) rfl (y_move (v := .pointer (some ⟨bg, 0, none⟩)) rfl) rfl rfl rfl (weak_emp 1 rfl) (listed' := #[true, false, false, false, false, false, false, false, false, false, false]) rfl ?_
  refine ge_take 1 (TK := [box bg _, emp, rowl _ _ _ _ _ _, rowl _ _ _ _ _ _, fr, box b3 _, box b14 _]) rfl (by kernel_rfl) (by kernel_rfl) (by kernel_rfl) #[true, false, false, false, false, true, true, false, false, false, false] (by kernel_rfl) rfl (y_move (v := .pointer (some ⟨bg, 0, none⟩)) rfl) rfl rfl rfl (weak_emp 1 rfl) (listed' := #[true, true, false, false, false, false, false, false, false, false, false]) rfl ?_
  refine ge_take 2 (TK := [box bg _, emp, rowl _ _ _ _ _ _, rowl _ _ _ _ _ _, fr, box b3 _, box b14 _]) rfl (by kernel_rfl) (by kernel_rfl) (by kernel_rfl) #[true, true, false, false, false, true, true, false, false, false, false] (by kernel_rfl) rfl (y_nilCheck rfl) rfl rfl rfl (weak_emp 1 rfl) (listed' := #[true, true, true, false, false, false, false, false, false, false, false]) rfl ?_
  refine ge_take 3 (TK := [box bg _, emp, rowl _ _ _ _ _ _, rowl _ _ _ _ _ _, fr, box b3 _, box b14 _]) rfl (by kernel_rfl) (by kernel_rfl) (by kernel_rfl) #[true, true, true, false, false, true, true, false, false, false, false] (by kernel_rfl) rfl (y_fieldAddr_box fa69_0 rfl) rfl rfl rfl (weak_emp 1 rfl) (listed' := #[true, true, true, true, false, false, false, false, false, false, false]) rfl ?_
  refine ge_take 4 (TK := [box bg _, emp, rowl _ _ _ _ _ _, rowl _ _ _ _ _ _, fr, box b3 _, box b14 _]) rfl (by kernel_rfl) (by kernel_rfl) (by kernel_rfl) #[true, true, true, true, false, true, true, false, false, false, false] (by kernel_rfl) rfl (y_load Tryd.isAgg22 rfl (cell_box 0 rfl rfl)) rfl rfl rfl (weak_emp 1 rfl) (listed' := #[true, true, true, true, true, false, false, false, false, false, false]) rfl ?_
  refine ge_take 5 (TK := [box bg _, emp, rowl _ _ _ _ _ _, rowl _ _ _ _ _ _, fr, box b3 _, box b14 _]) rfl (by kernel_rfl) (by kernel_rfl) (by kernel_rfl) #[true, true, true, true, true, false, false, false, false, false, false] (by kernel_rfl) rfl (y_loads (cs := [_, _, _, _]) Tryd.isAgg47 Tryd.sizeOf47 rfl rfl (cells_box 5 rfl)) rfl rfl rfl (weak_emp 1 rfl) (listed' := #[true, true, true, true, true, true, false, false, false, false, false]) rfl ?_
  refine ge_one 6 (k' := 0) (listed' := #[true, true, true, true, true, true, true, false, false, false, false]) (by kernel_rfl) rfl rfl rfl ?_
  refine gop_lit (vs := [.agg #[_, _, _, _]]) (cells := #[_, _, _, _]) Tryd.underlying22 Tryd.sizeOf47 Tryd.zeroValue47 rfl (by decide) (by decide) rfl rfl rfl rfl (fun b24 hb24 => ?_)
  refine gops_nil ?_
  refine ge_fin (TK := [box bg _, emp, rowl _ _ _ _ _ _, rowl _ _ _ _ _ _, fr, box b3 _, box b14 _]) rfl (weak_trans (weak_take (T' := [box bg _, rowl _ _ _ _ _ _, rowl _ _ _ _ _ _, rowl _ _ _ _ _ _, fr, box b3 _, box b14 _]) rfl) (weak_emp 1 rfl)) ?_
  refine ge_one 7 (k' := 0) (listed' := #[true, true, true, true, true, true, true, true, false, false, false]) (by kernel_rfl) rfl rfl rfl ?_
  refine gop_append 1 (f := pnCells) (l2 := [n]) Tryd.underlying22 el47 wide_pn (v := .slice _ _ _) rfl rfl rfl rfl (fun h => by cases h) (by simp [maxLen]; omega) (by simp; omega) (src_box 7 rfl rfl) rfl (fun v25 => ?_)
  refine gops_fact (fun w hM => own_form (hM.own 1 rfl)) ?_
  rintro ⟨A25, c25, rfl, hc25, hm25⟩
  refine gops_nil ?_
  refine ge_fin (TK := [box bg _, emp, rowl _ _ _ _ _ _, rowl _ _ _ _ _ _, fr, box b3 _, box b14 _]) rfl (weak_trans (weak_take (T' := [box bg _, rowl _ _ _ _ _ _, rowl _ _ _ _ _ _, rowl _ _ _ _ _ _, fr, box b3 _, box b14 _]) rfl) (weak_emp 1 rfl)) ?_
  refine ge_take 8 (TK := [box bg _, emp, rowl _ _ _ _ _ _, rowl _ _ _ _ _ _, fr, box b3 _, box b14 _]) rfl (by kernel_rfl) (by kernel_rfl) (by kernel_rfl) #[true, true, true, true, true, true, true, true, false, false, false] (by kernel_rfl) rfl (y_nilCheck rfl) rfl rfl rfl (weak_trans (weak_take (T' := [box bg _, rowl _ _ _ _ _ _, rowl _ _ _ _ _ _, rowl _ _ _ _ _ _, fr, box b3 _, box b14 _]) rfl) (weak_emp 1 rfl)) (listed' := #[true, true, true, true, true, true, true, true, true, false, false]) rfl ?_
  refine ge_take 9 (TK := [box bg _, emp, rowl _ _ _ _ _ _, rowl _ _ _ _ _ _, fr, box b3 _, box b14 _]) rfl (by kernel_rfl) (by kernel_rfl) (by kernel_rfl) #[true, true, true, true, true, true, true, true, true, false, false] (by kernel_rfl) rfl (y_fieldAddr_box fa69_0 rfl) rfl rfl rfl (weak_trans (weak_take (T' := [box bg _, rowl _ _ _ _ _ _, rowl _ _ _ _ _ _, rowl _ _ _ _ _ _, fr, box b3 _, box b14 _]) rfl) (weak_emp 1 rfl)) (listed' := #[true, true, true, true, true, true, true, true, true, true, false]) rfl ?_
  refine ge_one 10 (k' := 1) (listed' := #[true, true, true, true, true, true, true, true, true, true, true]) (by kernel_rfl) rfl rfl rfl ?_
  refine gop_store 0 (v := .slice A25 _ c25) (cs' := #[_, _, _]) rfl rfl Tryd.sizeOf22 rfl rfl rfl rfl (Nat.le_of_ble_eq_true rfl) rfl rfl ?_
  refine gops_nil ?_
  refine ge_fin (TK := []) rfl (weak_nil) ?_
  refine ge_done (by kernel_rfl) ?_
  intro w1 hM
  refine ⟨_, res0 rfl, ?_⟩
  exact ⟨rfl, A25, A15, c25, c15, Mem.pk (E := [_, _, _, _]) (weak_take (T' := [_, _, _, _, fr]) rfl _ hM)⟩
end Go.Proofs.YtllblbkbglifjaaDoor
