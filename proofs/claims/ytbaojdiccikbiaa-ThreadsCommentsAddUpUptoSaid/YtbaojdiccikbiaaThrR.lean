/- Review threads: how the arguments read. -/
import Derived.Test.YtbaojdiccikbiaaPatchR
import Derived.Test.YtbaojdiccikbiaaThr
namespace Go.Proofs.Ytbaojdiccikbiaa
open Go.ChangeShapes Go.WideShapes Go.ChangeAt Go.RowKit Go.Cf
theorem ce_str : Try.prog.cellsOf 9 = 1 := by kernel_rfl
theorem ce_pat : Try.prog.cellsOf 25 = 1 := by kernel_rfl
theorem by_event : Try.prog.bytesOf 66 = 72 := by kernel_rfl
theorem el_event {H : Type} {enc : TypeId × Value → H} {w : World} : ∀ (n : Nat) (cs : List Value) (x : DataW H × List MemPlace), DataW.trod enc Try.prog w 0 (fun _ => true) true n 66 cs = some x →
    (x.1.weights Try.prog 66).all (· ≤ reachBytes) = true → ∃ a : EvC, cs = evCells a ∧ EvR w 0 a := by
  intro n cs x h hw
  obtain ⟨m, hlen, hf⟩ := rd_struct Try.underlying66 h hw
  have hl : cs.length = 6 := hlen.trans (by kernel_rfl)
  match cs, hl with
  | [c0, c1, c2, c3, c4, c5], _ =>
    obtain ⟨y0, f0, _⟩ := hf 0 _ rfl
    obtain ⟨y1, f1, _⟩ := hf 1 _ rfl
    obtain ⟨y2, f2, _⟩ := hf 2 _ rfl
    obtain ⟨y3, f3, _⟩ := hf 3 _ rfl
    obtain ⟨y4, f4, _⟩ := hf 4 _ rfl
    obtain ⟨y5, f5, w5⟩ := hf 5 _ rfl
    simp [ce_int, ce_str, ce_pat] at f0 f1 f2 f3 f4 f5
    obtain ⟨a0, e0, _, _⟩ := DataW.trod_int Try.underlying3 f0
    obtain ⟨a1, e1, _, _⟩ := DataW.trod_int Try.underlying3 f1
    obtain ⟨a2, e2, _, _⟩ := DataW.trod_int Try.underlying3 f2
    obtain ⟨a3, e3, _, _⟩ := DataW.trod_int Try.underlying3 f3
    obtain ⟨a4, e4, _⟩ := DataW.trod_string Try.underlying9 f4
    obtain ⟨a5, e5, hp⟩ := el_pat _ _ _ f5 w5
    simp at e0 e1 e2 e3 e4 e5
    subst e0 e1 e2 e3 e4 e5
    exact ⟨⟨a0, a1, a2, a3, a4, a5.A, a5.c, a5.hs⟩, rfl, ⟨hp⟩⟩
end Go.Proofs.Ytbaojdiccikbiaa
