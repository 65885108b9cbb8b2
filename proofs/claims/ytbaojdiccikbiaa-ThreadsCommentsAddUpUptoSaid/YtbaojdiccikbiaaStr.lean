/- Calls that the model answers itself: the first byte of a kind in a string. Program independent. -/
import Derived.Test.YtbaojdiccikbiaaPatchC
namespace Go.Cf
open Go.RowKit
theorem y_indexByte {P : Program} {w0 : World} {T : List Reg} {ρ : Env} {dst : Option Nat} {x y : Operand} {ty : TypeId} {pos : String} {af : Array Edge} {gd : Option (Nat × Bool)} {ts : Array TypeId} {f : FuncId} {fn : Func}
    (hf : P.funcs[f]? = some fn) (hname : (fn.name == "runtime.NumGoroutine") = false) (hb : fn.body.isNone = true) (hn : Extern.findNext fn = none) (he : Extern.find fn = some Extern.BytealgIndexByte.indexByte) {s : ByteArray} {c : Int}
    (hx : ev ρ x = .string s) (hy : ev ρ y = .int .u8 c) :
    Yield P w0 T ρ ⟨dst, .call { callee := .value (.func f), args := #[x, y], argTypes := ts }, ty, pos, af, gd⟩ (.int .i64 (firstIdx s c.toNat.toUInt8)) := fun w _ => by
  have h := run_callFunc_extern hf hname hb hn he #[.string s, .int .u8 c] w
  rw [run_indexByte_string] at h
  simp only [Result.andThen] at h
  have hef : ev ρ (.func f) = .func (.func f) #[] #[] := rfl
  simp [execOp, resolve, invoke, hx, hy, hef, Deferred.ofValue]
  simpa using h
theorem y_field {P : Program} {w0 : World} {T : List Reg} {ρ : Env} {dst : Option Nat} {x : Operand} {ty t : TypeId} {pos : String} {af : Array Edge} {gd : Option (Nat × Bool)} {i : Nat} {cs : Array Value} {v : Value}
    (hx : ev ρ x = .agg cs) (hf : ∀ w, (Instr.field t (.agg cs) i).run P w = .ok v w) : Yield P w0 T ρ ⟨dst, .field t x i, ty, pos, af, gd⟩ v := fun w _ => by
  simp [execOp, hx, hf]
end Go.Cf
