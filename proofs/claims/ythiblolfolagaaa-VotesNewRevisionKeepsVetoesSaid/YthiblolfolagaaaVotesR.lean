/- Votes: how the arguments read. -/
import Derived.Test.YthiblolfolagaaaLibJ
import Derived.Test.YthiblolfolagaaaVotesL
import Derived.Test.YthiblolfolagaaaProg
namespace Go.Proofs.Ythiblolfolagaaa
open Go.ChangeShapes Go.WideShapes Go.ChangeAt Go.RowKit Go.Cf

theorem el_vote {H : Type} {enc : TypeId × Value → H} {w : World} : ∀ (n : Nat) (cs : List Value) (x : DataW H × List MemPlace), DataW.trod enc Try.prog w 0 (fun _ => true) true n 35 cs = some x →
    (x.1.weights Try.prog 35).all (· ≤ reachBytes) = true → ∃ a : Vote, cs = voteCells a ∧ (In64 a.user ∧ In64 a.rev ∧ In64 a.val) := by
  intro n cs x h _
  obtain ⟨ys, m, _, _, hlen, _, hf⟩ := DataW.trod_struct Try.underlying35 h
  have hl : cs.length = 3 := hlen.trans (by kernel_rfl)
  match cs, hl with
  | [c0, c1, c2], _ =>
    have ce : Try.prog.cellsOf 3 = 1 := by kernel_rfl
    obtain ⟨y0, hy0⟩ : ∃ y, ys[0]? = some y := ⟨_, List.getElem?_eq_getElem (by simp_all)⟩
    obtain ⟨y1, hy1⟩ : ∃ y, ys[1]? = some y := ⟨_, List.getElem?_eq_getElem (by simp_all)⟩
    obtain ⟨y2, hy2⟩ : ∃ y, ys[2]? = some y := ⟨_, List.getElem?_eq_getElem (by simp_all)⟩
    have f0 := (hf 0 _ rfl).trans hy0
    have f1 := (hf 1 _ rfl).trans hy1
    have f2 := (hf 2 _ rfl).trans hy2
    simp [ce] at f0 f1 f2
    obtain ⟨a0, e0, _, b0⟩ := DataW.trod_int Try.underlying3 f0
    obtain ⟨a1, e1, _, b1⟩ := DataW.trod_int Try.underlying3 f1
    obtain ⟨a2, e2, _, b2⟩ := DataW.trod_int Try.underlying3 f2
    simp at e0 e1 e2
    subst e0 e1 e2
    exact ⟨⟨a0, a1, a2⟩, rfl, wf_in64 b0, wf_in64 b1, wf_in64 b2⟩
end Go.Proofs.Ythiblolfolagaaa
