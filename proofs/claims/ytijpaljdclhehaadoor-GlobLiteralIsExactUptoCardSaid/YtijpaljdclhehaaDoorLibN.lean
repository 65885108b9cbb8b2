/- Own walking frame, part N: cuts of strings, min and max. Program independent. -/
import Derived.Test.YtijpaljdclhehaaDoorLibM
import Derived.Laws.Strings2
namespace Go.Cf
open Go.RowKit
section
variable {P : Program} {w0 : World} {T : List Reg} {ρ : Env} {dst : Option Tmp} {ty : TypeId} {pos : String} {af : Array Edge} {gd : Option (Nat × Bool)} {x y z : Operand} {t : TypeId} {s : ByteArray} {kl kh : IntKind} {lo hi : Int}
theorem y_strslice (ht : P.underlying t = some .string) (hx : ev ρ x = .string s) (hy : ev ρ y = .int kl lo) (hz : ev ρ z = .int kh hi) (h0 : 0 ≤ lo) (h1 : lo ≤ hi) (h2 : hi ≤ s.size) :
    Yield P w0 T ρ ⟨dst, .slice t x (some y) (some z) none, ty, pos, af, gd⟩ (.string (s.extract lo.toNat hi.toNat)) := fun w _ => by
  have h := run_slice_string (P := P) w t s kl kh lo hi ht h0 h1 h2
  have h' := run_sliceAt_string (P := P) w t (.string s) (some (.int kl lo)) (some (.int kh hi)) none ht
  simp [execOp, hx, hy, hz, h', h]
theorem y_strslice_lo (ht : P.underlying t = some .string) (hx : ev ρ x = .string s) (hy : ev ρ y = .int kl lo) (h0 : 0 ≤ lo) (h1 : lo ≤ s.size) :
    Yield P w0 T ρ ⟨dst, .slice t x (some y) none none, ty, pos, af, gd⟩ (.string (s.extract lo.toNat s.size)) := fun w _ => by
  have h := run_slice_string_l (P := P) w t s ht kl lo h0 h1
  have h' := run_sliceAt_string (P := P) w t (.string s) (some (.int kl lo)) none none ht
  simp [execOp, hx, hy, h', h]
theorem y_strslice_hi (ht : P.underlying t = some .string) (hx : ev ρ x = .string s) (hz : ev ρ z = .int kh hi) (h0 : 0 ≤ hi) (h2 : hi ≤ s.size) :
    Yield P w0 T ρ ⟨dst, .slice t x none (some z) none, ty, pos, af, gd⟩ (.string (s.extract 0 hi.toNat)) := fun w _ => by
  have h := run_slice_string_h (P := P) w t s ht kh hi h0 h2
  have h' := run_sliceAt_string (P := P) w t (.string s) none (some (.int kh hi)) none ht
  simp [execOp, hx, hz, h', h]
end
end Go.Cf
