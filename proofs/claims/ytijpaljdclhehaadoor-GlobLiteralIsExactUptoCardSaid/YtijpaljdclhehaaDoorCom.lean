/- Plain data that many walks share: faults, cells of elements. Program independent. -/
import Derived.Test.YtijpaljdclhehaaDoorLibI
namespace Go.Cf
open Go.RowKit

structure Fault where
  code : Int
  index : Int
  deriving DecidableEq
abbrev fv (f : Fault) : Value := .agg #[.int .i64 f.code, .int .i64 f.index]
abbrev boolCells (b : Bool) : List Value := [.bool b]
abbrev intCells (n : Int) : List Value := [.int .i64 n]
abbrev strCells (s : ByteArray) : List Value := [.string s]
theorem wide_bool : Wide boolCells 1 := fun _ => ⟨rfl, by simp [boolCells, Value.oneCell']⟩
theorem wide_int : Wide intCells 1 := fun _ => ⟨rfl, by simp [intCells, Value.oneCell']⟩
theorem wide_str : Wide strCells 1 := fun _ => ⟨rfl, by simp [strCells, Value.oneCell']⟩
theorem own_some {w : World} {base size n : Nat} {e : TypeId} {v : Value} {xs : List Value} (h : w.ownsRow base e size v n xs) (hn : 0 < n) : ∃ g c, v = .slice (some ⟨g, 0, none⟩) n c ∧ n ≤ c ∧ c ≤ maxLen := by
  rcases h.2 with ⟨rfl, rfl⟩ | ⟨g, cap, cur, rfl, _, _, h4, h5, _⟩
  · exact absurd hn (Nat.lt_irrefl 0)
  · exact ⟨_, _, rfl, h4, h5⟩
end Go.Cf
