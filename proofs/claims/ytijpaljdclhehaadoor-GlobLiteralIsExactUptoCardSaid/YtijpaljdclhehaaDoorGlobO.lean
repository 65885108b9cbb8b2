/- Places in two parts: what the search for a common name does. Program independent. -/
import Derived.Test.YtijpaljdclhehaaDoorGlobN
namespace Go.Cf
open Go.RowKit
abbrev Pl := Nat × Nat × Nat
abbrev placeCells (x : Pl) : List Value := [.int .i64 (x.1 : Int), .int .i64 (x.2.1 : Int), .int .i64 (x.2.2 : Int)]
theorem wide_place : Wide placeCells 3 := fun _ => ⟨rfl, by simp [placeCells, Value.oneCell']⟩
def wildB (c : Nat) : Bool := decide (c = 42) || decide (c = 63)
def nxA (p : ByteArray) (x : Pl) : List Pl := if x.1 < p.size ∧ byteAt p x.1 = 42 then [(x.1 + 1, x.2.1, x.2.2)] else []
def nxB (q : ByteArray) (x : Pl) : List Pl := if x.2.1 < q.size ∧ byteAt q x.2.1 = 42 then [(x.1, x.2.1 + 1, x.2.2)] else []
def fits (p q : ByteArray) (x : Pl) : Prop := wildB (byteAt p x.1) = true ∨ wildB (byteAt q x.2.1) = true ∨ byteAt p x.1 = byteAt q x.2.1
instance (p q : ByteArray) (x : Pl) : Decidable (fits p q x) := by unfold fits; infer_instance
def nxI (p : ByteArray) (x : Pl) : Nat := if byteAt p x.1 = 42 then x.1 else x.1 + 1
def nxJ (q : ByteArray) (x : Pl) : Nat := if byteAt q x.2.1 = 42 then x.2.1 else x.2.1 + 1
def nxD (p q : ByteArray) (x : Pl) : Nat := if byteAt p x.1 = 46 ∨ byteAt q x.2.1 = 46 then min (x.2.2 + 1) 3 else 3
def nxC (p q : ByteArray) (x : Pl) : List Pl := if x.1 < p.size ∧ x.2.1 < q.size ∧ fits p q x then [(nxI p x, nxJ q x, nxD p q x)] else []
def nextL (p q : ByteArray) (x : Pl) : List Pl := nxA p x ++ nxB q x ++ nxC p q x
theorem nxA_len (p : ByteArray) (x : Pl) : (nxA p x).length ≤ 1 := by unfold nxA; split <;> simp
theorem nxB_len (p : ByteArray) (x : Pl) : (nxB p x).length ≤ 1 := by unfold nxB; split <;> simp
theorem nxC_len (p q : ByteArray) (x : Pl) : (nxC p q x).length ≤ 1 := by unfold nxC; split <;> simp
theorem nextL_len (p q : ByteArray) (x : Pl) : (nextL p q x).length ≤ 3 := by
  have := nxA_len p x; have := nxB_len q x; have := nxC_len p q x
  unfold nextL; simp; omega
section
variable {P : Program} {w0 : World} {T : List Reg} {ρ : Env} {dst : Option Tmp} {ty : TypeId} {pos : String} {af : Array Edge} {gd : Option (Nat × Bool)} {x y : Operand} {t : TypeId}
theorem y_min_nat {a b : Nat} {ats : Array TypeId} (hx : ev ρ x = .int .i64 (a : Int)) (hy : ev ρ y = .int .i64 (b : Int)) :
    Yield P w0 T ρ ⟨dst, .call { callee := .builtin .min, args := #[x, y], argTypes := ats }, ty, pos, af, gd⟩ (.int .i64 ((min a b : Nat) : Int)) := by
  have h := y_min (P := P) (w0 := w0) (T := T) (dst := dst) (ty := ty) (pos := pos) (af := af) (gd := gd) (ats := ats) hx hy
  rwa [show (if (b : Int) < a then (b : Int) else a) = ((min a b : Nat) : Int) by split <;> omega] at h
end
end Go.Cf
