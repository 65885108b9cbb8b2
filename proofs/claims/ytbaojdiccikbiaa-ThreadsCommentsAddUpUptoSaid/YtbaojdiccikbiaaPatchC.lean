/- Texts and patches in memory. Program independent. -/
import Derived.Test.YtbaojdiccikbiaaPatchM
namespace Go.Cf
open Go.RowKit

/-- a hunk with where its lines lie -/
structure HunkC where
  pl : Hunk
  oA : Option Addr
  oc : Nat
  nA : Option Addr
  nc : Nat
abbrev hunkCells (h : HunkC) : List Value := [.int .i64 h.pl.at_, .slice h.oA h.pl.old.length h.oc, .slice h.nA h.pl.new.length h.nc]
abbrev hunkV (h : HunkC) : Value := .agg #[.int .i64 h.pl.at_, .slice h.oA h.pl.old.length h.oc, .slice h.nA h.pl.new.length h.nc]
theorem wide_hunk : Wide hunkCells 3 := fun _ => ⟨rfl, by simp [hunkCells, Value.oneCell']⟩
/-- a slice's bounds -/
structure SB (A : Option Addr) (n c : Nat) (b : Nat) : Prop where
  len : n ≤ c
  max : c ≤ maxLen
  nil : A = none → c = 0
  bytes : n * b ≤ reachBytes
theorem SB.lit {a : Addr} {b : Nat} (n : Nat) (h : n ≤ 1000) (hb : b ≤ 1000) : SB (some a) n n b := by
  refine ⟨Nat.le_refl _, by unfold maxLen; omega, (fun h => by cases h), ?_⟩
  have : n * b ≤ 1000 * 1000 := Nat.mul_le_mul h hb
  unfold reachBytes; omega
structure HunkR (w : World) (lo : Nat) (h : HunkC) : Prop where
  old : Rdl w lo 1 strCells h.oA h.pl.old
  new : Rdl w lo 1 strCells h.nA h.pl.new
  ob : SB h.oA h.pl.old.length h.oc 16
  nb : SB h.nA h.pl.new.length h.nc 16
  at_ : In64 h.pl.at_
/-- memory facts that last as long as the cells from lo on that stand now -/
def Lasts (lo : Nat) (R : World → Prop) : Prop := ∀ w w', R w → (∀ p : Addr, lo ≤ p.block → p.block < w.heap.size → w'.cell? p = w.cell? p) → R w'
theorem Lasts.base {lo : Nat} {R : World → Prop} (h : Lasts lo R) {w0 w : World} {T : List Reg} (hR : R w0) (hM : Mem w0 T w) : R w := h w0 w hR fun _ _ hp => hM.low.cell hp
theorem Lasts.below {lo : Nat} {R : World → Prop} (h : Lasts lo R) {w0 w : World} (hR : R w0) (hb : Below w0.heap.size w0 w) : R w := h w0 w hR fun _ _ hp => hb.cell hp
theorem Lasts.seal_ {lo : Nat} {R : World → Prop} (h : Lasts lo R) {w0 w ws : World} {T : List Reg} (i : Nat) {lo1 : Nat} (hi : T[i]? = some (seal_ lo1 ws)) (hR : R ws) (hlo : lo1 ≤ lo) (hM : Mem w0 T w) : R w :=
  h ws w hR fun p h1 h2 => by
    have h3 : ∀ k, lo1 ≤ k → k < ws.heap.size → w.heap[k]? = ws.heap[k]? := hM.ok _ (List.mem_of_getElem? hi)
    exact World.cell?_of_block (h3 p.block (Nat.le_trans hlo h1) h2)
theorem Rdl.lasts {α : Type} {lo size : Nat} {f : α → List Value} {A : Option Addr} {l : List α} : Lasts lo (fun w => Rdl w lo size f A l) := fun _ _ h hk => h.keep hk
theorem HunkR.lasts {lo : Nat} {h : HunkC} : Lasts lo (fun w => HunkR w lo h) := fun _ _ hR hk => ⟨hR.old.keep hk, hR.new.keep hk, hR.ob, hR.nb, hR.at_⟩
theorem HunkR.mono {w : World} {lo lo' : Nat} {h : HunkC} (hR : HunkR w lo h) (hl : lo' ≤ lo) : HunkR w lo' h := ⟨hR.old.mono hl, hR.new.mono hl, hR.ob, hR.nb, hR.at_⟩
/-- a patch's hunks -/
structure PatR (w : World) (lo : Nat) (A : Option Addr) (c : Nat) (hs : List HunkC) : Prop where
  rd : Rdl w lo 3 hunkCells A hs
  each : ∀ h ∈ hs, HunkR w lo h
  sb : SB A hs.length c 56
theorem PatR.lasts {lo : Nat} {A : Option Addr} {c : Nat} {hs : List HunkC} : Lasts lo (fun w => PatR w lo A c hs) := fun w w' hR hk => ⟨hR.rd.keep hk, fun h hh => HunkR.lasts w w' (hR.each h hh) hk, hR.sb⟩
theorem PatR.mono {w : World} {lo lo' : Nat} {A : Option Addr} {c : Nat} {hs : List HunkC} (hR : PatR w lo A c hs) (hl : lo' ≤ lo) : PatR w lo' A c hs := ⟨hR.rd.mono hl, fun h hh => (hR.each h hh).mono hl, hR.sb⟩
abbrev pls (hs : List HunkC) : List Hunk := hs.map HunkC.pl
structure PatC where
  A : Option Addr
  c : Nat
  hs : List HunkC
abbrev patCells (p : PatC) : List Value := [.slice p.A p.hs.length p.c]
abbrev PatC.pl (p : PatC) : List Hunk := pls p.hs
theorem wide_pat : Wide patCells 1 := fun _ => ⟨rfl, by simp [patCells, Value.oneCell']⟩
/-- a list of patches -/
structure PatsR (w : World) (lo : Nat) (A : Option Addr) (ps : List PatC) : Prop where
  rd : Rdl w lo 1 patCells A ps
  each : ∀ p ∈ ps, PatR w lo p.A p.c p.hs
theorem PatsR.lasts {lo : Nat} {A : Option Addr} {ps : List PatC} : Lasts lo (fun w => PatsR w lo A ps) := fun w w' hR hk => ⟨hR.rd.keep hk, fun h hh => PatR.lasts w w' (hR.each h hh) hk⟩
theorem PatsR.mono {w : World} {lo lo' : Nat} {A : Option Addr} {ps : List PatC} (hR : PatsR w lo A ps) (hl : lo' ≤ lo) : PatsR w lo' A ps := ⟨hR.rd.mono hl, fun h hh => (hR.each h hh).mono hl⟩
end Go.Cf
