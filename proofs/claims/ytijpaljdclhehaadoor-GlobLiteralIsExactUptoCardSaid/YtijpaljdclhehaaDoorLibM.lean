/- Own walking frame, part M: bytes of strings. Program independent. -/
import Derived.Test.YtijpaljdclhehaaDoorLibL
import Derived.Laws.Strings
import Derived.Laws.Runes
namespace Go.Cf
open Go.RowKit
def byteAt (s : ByteArray) (i : Nat) : Nat := (s.data.toList[i]?.getD 0).toNat
theorem byteAt_get {s : ByteArray} {i : Nat} (h : i < s.size) : byteAt s i = (s[i]'h).toNat := by
  have h' : i < s.data.size := h
  unfold byteAt
  rw [Array.getElem?_toList, Array.getElem?_eq_getElem h']; rfl
section
variable {P : Program} {w0 : World} {T : List Reg} {ρ : Env} {dst : Option Tmp} {ty : TypeId} {pos : String} {af : Array Edge} {gd : Option (Nat × Bool)} {x y : Operand} {t : TypeId}
theorem y_stridx {s : ByteArray} {k : IntKind} {i : Int} {m : Nat} (ht : P.underlying t = some .string) (hx : ev ρ x = .string s) (hi : ev ρ y = .int k i) (hm : i.toNat = m) (h0 : 0 ≤ i) (h1 : i < s.size) :
    Yield P w0 T ρ ⟨dst, .index t x y, ty, pos, af, gd⟩ (.int .u8 (byteAt s m : Nat)) := fun w _ => by
  subst hm
  have h := run_index_string (P := P) w t s k i ht
  rw [dif_pos ⟨h0, h1⟩] at h
  rw [byteAt_get (by omega)]
  simp [execOp, hx, hi, h]
end
theorem firstIdx_hit {s : ByteArray} {k : Nat} {c : UInt8} (h : k < s.size) (hb : byteAt s k = c.toNat) : 0 ≤ firstIdx s c := by
  have h1 := firstIdx_nonneg s c
  have h2 : s.data.toList.any (· == c) = true := by
    rw [List.any_eq_true]
    have h' : k < s.data.toList.length := by simpa using h
    refine ⟨s.data.toList[k], List.getElem_mem h', ?_⟩
    unfold byteAt at hb
    rw [List.getElem?_eq_getElem h'] at hb
    simpa using UInt8.toNat_inj.1 hb
  rw [h2] at h1; exact of_decide_eq_true h1
theorem firstIdx_miss {s : ByteArray} {c : UInt8} (h : ∀ j, j < s.size → byteAt s j ≠ c.toNat) : ¬ 0 ≤ firstIdx s c := by
  have h1 := firstIdx_nonneg s c
  have h2 : s.data.toList.any (· == c) = false := by
    rw [List.any_eq_false]
    intro b hb
    obtain ⟨k, hk, rfl⟩ := List.getElem_of_mem hb
    have := h k (by simpa using hk)
    unfold byteAt at this
    rw [List.getElem?_eq_getElem hk] at this
    intro he
    apply this
    simp at he
    simp [he]
  rw [h2] at h1; exact of_decide_eq_false h1
end Go.Cf
