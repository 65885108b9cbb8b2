/- Own walking frame, part Q: min, functions of the library that the model gives, bytes and places. Program independent. -/
import Derived.Test.YtijpaljdclhehaaDoorLibP
import Derived.Laws.Externs
import Derived.Lib.Bytealg
namespace Go.Cf
open Go.RowKit
theorem Mem.known {w0 w : World} {T : List Reg} {p : Prop} (i : Nat) (hi : T[i]? = some (Go.Cf.sure p)) (h : Mem w0 T w) : p := h.ok _ (List.mem_of_getElem? hi)
theorem Mem.resure {w0 w : World} {T : List Reg} {p p' : Prop} (i : Nat) (hi : T[i]? = some (Go.Cf.sure p)) (hp : p') (h : Mem w0 T w) : Mem w0 (T.set i (Go.Cf.sure p')) w :=
  h.upd hi (Chg.of_below (Below.refl _ _)) hp (fun _ hb => hb.elim)
section
variable {P : Program} {w0 : World} {T : List Reg} {ρ : Env} {dst : Option Tmp} {ty : TypeId} {pos : String} {af : Array Edge} {gd : Option (Nat × Bool)} {x y : Operand} {t : TypeId}
theorem y_min {a b : Int} {ats : Array TypeId} (hx : ev ρ x = .int .i64 a) (hy : ev ρ y = .int .i64 b) :
    Yield P w0 T ρ ⟨dst, .call { callee := .builtin .min, args := #[x, y], argTypes := ats }, ty, pos, af, gd⟩ (.int .i64 (if b < a then b else a)) := fun w _ => by
  simp [execOp, resolve, invoke, builtin, hx, hy, Builtin.min_, Builtin.min2]
theorem y_min_l {a b : Int} {ats : Array TypeId} (hx : ev ρ x = .int .i64 a) (hy : ev ρ y = .int .i64 b) (h : a ≤ b) :
    Yield P w0 T ρ ⟨dst, .call { callee := .builtin .min, args := #[x, y], argTypes := ats }, ty, pos, af, gd⟩ (.int .i64 a) := by
  have := y_min (P := P) (w0 := w0) (T := T) (dst := dst) (ty := ty) (pos := pos) (af := af) (gd := gd) (ats := ats) hx hy
  rwa [if_neg (by omega)] at this
/-- a function of the library that the model gives -/
theorem y_extern {f : FuncId} {fn : Func} {args : Array Operand} {ats : Array TypeId} {vs : List Value} {e : Array Value → Sem Value} {v : Value} (hf : P.funcs[f]? = some fn) (hnm : (fn.name == "runtime.NumGoroutine") = false)
    (hb : fn.body.isNone = true) (hn : Extern.findNext fn = none) (he : Extern.find fn = some e) (ha : args.toList.map (ev ρ) = vs) (hr : ∀ w, (e vs.toArray).run P w = .ok v w) :
    Yield P w0 T ρ ⟨dst, .call { callee := .value (.func f), args := args, argTypes := ats }, ty, pos, af, gd⟩ v := fun w _ => by
  have e1 : args.map (ev ρ) = vs.toArray := by rw [← ha, ← Array.toList_map, Array.toArray_toList]
  have h := run_callFunc_extern (P := P) hf hnm hb hn he vs.toArray w
  rw [hr w] at h
  simp [execOp, resolve, Deferred.ofValue, ev, invoke, e1, h, Result.andThen]
end
end Go.Cf
