/- What the bound of the second form gives: lengths of slices and strings. -/
import Derived.Test.YtijpaljdclhehaaDoorLibJ
import Derived.Test.YtijpaljdclhehaaDoorRows
namespace Go.Proofs.YtijpaljdclhehaaDoor
open Go.ChangeShapes Go.WideShapes Go.ChangeAt Go.RowKit Go.Cf
theorem bulk_one {H : Type} (d : DataW H) : 1 ≤ Rows.uptoBulk d := by
  cases d with
  | lit l => cases l <;> simp [Rows.uptoBulk]
  | _ => simp [Rows.uptoBulk]
theorem bulk_count {H : Type} (l : List (DataW H)) : l.length ≤ Rows.uptoBulkAll l := by
  induction l with
  | nil => simp [Rows.uptoBulkAll]
  | cons x r ih => have := bulk_one x; simp only [Rows.uptoBulkAll, List.length_cons]; omega
theorem bulk_len {H : Type} {enc : TypeId × Value → H} {P : Program} {w : World} {t e : TypeId} {d : DataW H} {p : List MemPlace} (ht : P.underlying t = some (.slice e)) {A : Option Addr} {len cap : Nat}
    (h : DataW.Trod enc P w 0 (fun _ => true) true t (.slice A len cap) d p) : len ≤ Rows.uptoBulk d ∧ cap ≤ Rows.uptoBulk d := by
  rcases rd_places ht h with ⟨_, rfl, rfl⟩ | ⟨xs, ys, rfl, h1, h2⟩
  · exact ⟨Nat.zero_le _, Nat.zero_le _⟩
  · have := bulk_count xs
    have := bulk_count ys
    simp only [Rows.uptoBulk]
    omega
end Go.Proofs.YtijpaljdclhehaaDoor
