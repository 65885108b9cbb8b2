/- Texts and patches: how the arguments read. -/
import Derived.Test.YtbaojdiccikbiaaLibJ
import Derived.Test.YtbaojdiccikbiaaPatchC
import Derived.Test.YtbaojdiccikbiaaProg
namespace Go.Proofs.Ytbaojdiccikbiaa
open Go.ChangeShapes Go.WideShapes Go.ChangeAt Go.RowKit Go.Cf

theorem ce_int : Try.prog.cellsOf 3 = 1 := by kernel_rfl
theorem ce_strs : Try.prog.cellsOf 41 = 1 := by kernel_rfl
theorem ce_hunks : Try.prog.cellsOf 23 = 1 := by kernel_rfl
theorem by_str : Try.prog.bytesOf 9 = 16 := by kernel_rfl
theorem by_hunk : Try.prog.bytesOf 43 = 56 := by kernel_rfl
theorem el_hunk {H : Type} {enc : TypeId × Value → H} {w : World} : ∀ (n : Nat) (cs : List Value) (x : DataW H × List MemPlace), DataW.trod enc Try.prog w 0 (fun _ => true) true n 43 cs = some x →
    (x.1.weights Try.prog 43).all (· ≤ reachBytes) = true → ∃ a : HunkC, cs = hunkCells a ∧ HunkR w 0 a := by
  intro n cs x h hw
  obtain ⟨m, hlen, hf⟩ := rd_struct Try.underlying43 h hw
  have hl : cs.length = 3 := hlen.trans (by kernel_rfl)
  match cs, hl with
  | [c0, c1, c2], _ =>
    obtain ⟨y0, f0, _⟩ := hf 0 _ rfl
    obtain ⟨y1, f1, w1⟩ := hf 1 _ rfl
    obtain ⟨y2, f2, w2⟩ := hf 2 _ rfl
    simp [ce_int, ce_strs] at f0 f1 f2
    obtain ⟨a0, e0, _, b0⟩ := DataW.trod_int Try.underlying3 f0
    obtain ⟨A1, c1', l1, e1, r1, s1, m1, n1, t1, _⟩ := rd_cells Try.underlying41 (by kernel_rfl) (el_str Try.underlying9) f1 w1
    obtain ⟨A2, c2', l2, e2, r2, s2, m2, n2, t2, _⟩ := rd_cells Try.underlying41 (by kernel_rfl) (el_str Try.underlying9) f2 w2
    simp at e0 e1 e2
    subst e0 e1 e2
    rw [by_str] at t1 t2
    exact ⟨⟨⟨a0, l1, l2⟩, A1, c1', A2, c2'⟩, rfl, ⟨r1, r2, ⟨s1, m1, n1, Nat.le_trans (Nat.mul_le_mul_right _ s1) t1⟩, ⟨s2, m2, n2, Nat.le_trans (Nat.mul_le_mul_right _ s2) t2⟩, wf_in64 b0⟩⟩
theorem el_pat {H : Type} {enc : TypeId × Value → H} {w : World} : ∀ (n : Nat) (cs : List Value) (x : DataW H × List MemPlace), DataW.trod enc Try.prog w 0 (fun _ => true) true n 25 cs = some x →
    (x.1.weights Try.prog 25).all (· ≤ reachBytes) = true → ∃ a : PatC, cs = patCells a ∧ PatR w 0 a.A a.c a.hs := by
  intro n cs x h hw
  obtain ⟨m, hlen, hf⟩ := rd_struct Try.underlying25 h hw
  have hl : cs.length = 1 := hlen.trans (by kernel_rfl)
  match cs, hl with
  | [c0], _ =>
    obtain ⟨y0, f0, w0⟩ := hf 0 _ rfl
    simp [ce_hunks] at f0
    obtain ⟨A1, c1', l1, e1, r1, s1, m1, n1, t1, q1⟩ := rd_cells Try.underlying23 (by kernel_rfl) el_hunk f0 w0
    simp at e1
    subst e1
    rw [by_hunk] at t1
    exact ⟨⟨A1, c1', l1⟩, rfl, ⟨r1, q1, ⟨s1, m1, n1, Nat.le_trans (Nat.mul_le_mul_right _ s1) t1⟩⟩⟩
end Go.Proofs.Ytbaojdiccikbiaa
