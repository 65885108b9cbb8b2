/- Own walking frame, part E: slices that read as lists. Program independent. -/
import Derived.Test.YtijpaljdclhehaaDoorLibD
namespace Go.Cf
open Go.RowKit

/-- the slice (A, l.length) holds the elements of l, each as 'size' cells, in blocks from lo on -/
def Rdl {α : Type} (w : World) (lo size : Nat) (f : α → List Value) (A : Option Addr) (l : List α) : Prop :=
  0 < l.length → ∃ ad, A = some ad ∧ lo ≤ ad.block ∧ ∀ k x, l[k]? = some x → ∀ j u, (f x)[j]? = some u → w.cell? (ad.add (k * size + j)) = some u

section
variable {α : Type} {w w' w0 : World} {lo size : Nat} {f : α → List Value} {A : Option Addr} {l : List α} {T : List Reg}
theorem Rdl.nil : Rdl w lo size f A ([] : List α) := fun h => absurd h (by simp)
theorem Rdl.keep (h : Rdl w lo size f A l) (hk : ∀ p : Addr, lo ≤ p.block → p.block < w.heap.size → w'.cell? p = w.cell? p) : Rdl w' lo size f A l := fun hn => by
  obtain ⟨ad, e, hb, hc⟩ := h hn
  refine ⟨ad, e, hb, fun k x hx j u hu => ?_⟩
  have := hc k x hx j u hu
  exact (hk _ (by rw [block_add]; exact hb) (World.block_lt_of_cell? w _ this)).trans this
theorem Rdl.below (h : Rdl w lo size f A l) (hb : Below w.heap.size w w') : Rdl w' lo size f A l := h.keep fun _ _ hp => hb.cell hp
theorem Rdl.mono {lo' : Nat} (h : Rdl w lo size f A l) (hl : lo' ≤ lo) : Rdl w lo' size f A l := fun hn => by
  obtain ⟨ad, e, hb, hc⟩ := h hn
  exact ⟨ad, e, Nat.le_trans hl hb, hc⟩
/-- read through what is known: of the world at the start -/
theorem Rdl.base (h : Rdl w0 lo size f A l) (hM : Mem w0 T w) : Rdl w lo size f A l := h.keep fun _ _ hp => hM.low.cell hp
/-- read through what is known: of a sealed part -/
theorem Rdl.seal_ (i : Nat) {ws : World} {lo1 : Nat} (hi : T[i]? = some (seal_ lo1 ws)) (h : Rdl ws lo size f A l) (hlo : lo1 ≤ lo) (hM : Mem w0 T w) : Rdl w lo size f A l :=
  h.keep fun p h1 h2 => by
    have h3 : ∀ k, lo1 ≤ k → k < ws.heap.size → w.heap[k]? = ws.heap[k]? := hM.ok _ (List.mem_of_getElem? hi)
    exact World.cell?_of_block (h3 p.block (Nat.le_trans hlo h1) h2)
/-- one element's cells: base -/
theorem Rdl.at_ {k : Nat} (h : Rdl w lo size f A l) (hk : k < l.length) : ∃ ad, A = some ad ∧ lo ≤ ad.block ∧ ∀ j u, (f l[k])[j]? = some u → w.cell? (ad.add (k * size + j)) = some u := by
  obtain ⟨ad, e, hb, hc⟩ := h (by omega)
  exact ⟨ad, e, hb, hc k l[k] (List.getElem?_eq_getElem hk)⟩
end
theorem cells_base {w0 : World} {T : List Reg} {ad : Addr} {m : Nat} {cs : List Value} (h : ∀ j u, cs[j]? = some u → w0.cell? (ad.add (m + j)) = some u) :
    ∀ j u, cs[j]? = some u → Cell w0 T ((ad.add m).add j) u := fun j u hu => by rw [add_add]; exact cell_base (h j u hu)
theorem cells_sealed {w0 : World} {T : List Reg} (i : Nat) {ws : World} {lo : Nat} (hi : T[i]? = some (seal_ lo ws)) {ad : Addr} {m : Nat} {cs : List Value} (hlo : lo ≤ ad.block) (h : ∀ j u, cs[j]? = some u → ws.cell? (ad.add (m + j)) = some u) :
    ∀ j u, cs[j]? = some u → Cell w0 T ((ad.add m).add j) u := fun j u hu => by rw [add_add]; exact cell_seal i hi (by rw [block_add]; exact hlo) (h j u hu)

theorem res_tmp {P : Program} {fn : Func} {ρ : Env} {w : World} {t : Nat} {v : Value} (h : fn.results = #[.tmp t]) (hv : ρ t = v) : resOf P fn ρ w v := fun tmps ht => by
  rw [results_tmp h, ht, hv]
theorem res_tmp2 {P : Program} {fn : Func} {ρ : Env} {w : World} {t u : Nat} {v v' : Value} (h : fn.results = #[.tmp t, .tmp u]) (hv : ρ t = v) (hv' : ρ u = v') : resOf P fn ρ w (.tuple #[v, v']) := fun tmps ht => by
  rw [results_tmp2 h, ht, ht, hv, hv']
end Go.Cf
