/- keys of the maps. -/
import Derived.Test.YtijpaljdclhehaaDoorGlobN
import Derived.Test.YtijpaljdclhehaaDoorProg
import Derived.ChangeKeysEq
namespace Go.Proofs.YtijpaljdclhehaaDoor
open Go.RowKit Go.Cf
set_option maxRecDepth 10000
abbrev ek2 (k : Nat × Nat) : Value := .agg #[.int .i64 k.1, .int .i64 k.2]
abbrev ek3 (k : Nat × Nat × Nat) : Value := .agg #[.int .i64 k.1, .int .i64 k.2.1, .int .i64 k.2.2]
theorem ck2 (em : Bool) (k : Nat × Nat) (w : World) : (Instr.checkKey em 10000 69 (ek2 k)).run Tryd.prog w = .ok () w := by
  kernel_rfl
theorem ck3 (em : Bool) (k : Nat × Nat × Nat) (w : World) : (Instr.checkKey em 10000 89 (ek3 k)).run Tryd.prog w = .ok () w := by
  kernel_rfl
theorem eq3 (a b c a' b' c' : Int) (w : World) : (Op.equal 89 (.agg #[.int .i64 a, .int .i64 b, .int .i64 c]) (.agg #[.int .i64 a', .int .i64 b', .int .i64 c'])).run Tryd.prog w = .ok (decide (a = a') && decide (b = b') && decide (c = c')) w := by
  show (Op.equalIn (9999 + 1) 89 _ _).run _ _ = _
  rw [run_equalIn_agg _ _ _ _ _ (by kernel_rfl) (by kernel_rfl)]
  simp [Tryd.underlying89, Program.fieldsOf, go_sem]
  (repeat' split) <;> simp_all
theorem eq2 (a b a' b' : Int) (w : World) : (Op.equal 69 (.agg #[.int .i64 a, .int .i64 b]) (.agg #[.int .i64 a', .int .i64 b'])).run Tryd.prog w = .ok (decide (a = a') && decide (b = b')) w := by
  obtain ⟨i, hi⟩ := info_of_underlying Tryd.underlying3
  show (Op.equalIn (9999 + 1) 69 _ _).run _ _ = _
  rw [run_equalIn_array _ _ _ _ Tryd.underlying69 hi]
  have h1 : Tryd.prog.cellsOf 3 = 1 := by kernel_rfl
  have h2 : List.range 2 = [0, 1] := rfl
  rw [h1, h2]
  simp [Op.eqItems, go_sem]
  (repeat' split) <;> simp_all
theorem sm2 (k : Nat × Nat) : Instr.sameBits 10000 (ek2 k) (ek2 k) = true := by
  simp [Instr.sameBits]
theorem sm3 (k : Nat × Nat × Nat) : Instr.sameBits 10000 (ek3 k) (ek3 k) = true := by
  simp [Instr.sameBits]
theorem key2 : Key Tryd.prog 69 ek2 where
  wide := by kernel_rfl
  check := fun em k w => ck2 em k w
  eq := fun k k' w => by
    rw [eq2]
    congr 1
    rw [Bool.eq_iff_iff]; simp [Prod.ext_iff]; omega
  same := sm2
theorem key3 : Key Tryd.prog 89 ek3 where
  wide := by kernel_rfl
  check := fun em k w => ck3 em k w
  eq := fun k k' w => by
    rw [eq3]
    congr 1
    rw [Bool.eq_iff_iff]; simp [Prod.ext_iff]; omega
  same := sm3
end Go.Proofs.YtijpaljdclhehaaDoor
