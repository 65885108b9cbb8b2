/- Own walking frame, part R: rows made of literals, rows cut at their end, pigeonholes. Program independent. -/
import Derived.Test.YtijpaljdclhehaaDoorLibQ
namespace Go.Cf
open Go.RowKit
section
variable {w0 : World} {T : List Reg}
theorem weak_boxrow (i : Nat) {α : Type} {f : α → List Value} {l : List α} {size b : Nat} {e : TypeId} {cs : Array Value} (hi : T[i]? = some (box b (.cells cs e))) (hf : ∀ x, (f x).length = size) (hl : cs.toList = l.flatMap f) (hm : l.length ≤ maxLen) :
    Weak w0 T (T.set i (rowl f w0.heap.size e size (.slice (some ⟨b, 0, none⟩) l.length l.length) l)) := fun w hM => by
  have hb : w.heap[b]? = some (.cells cs e (0, 0)) := hM.ok _ (List.mem_of_getElem? hi)
  have hlt := hM.lt _ (List.mem_of_getElem? hi) b rfl
  refine hM.upd hi (Chg.of_below (Below.refl _ _)) ⟨flat_len hf l, .inr ⟨b, l.length, cs, rfl, hM.ge _ (List.mem_of_getElem? hi) b rfl, hb, Nat.le_refl _, hm, ?_, ?_⟩⟩ (fun k hk => ?_)
  · rw [← Array.length_toList, hl, flat_len hf]
  · rw [hl, List.take_of_length_le (by rw [flat_len hf]; omega)]
  · have hk' : some b = some k := hk
    injection hk' with hk'
    subst hk'
    exact ⟨.inl rfl, hlt⟩
theorem weak_trunc (i : Nat) {α : Type} {f : α → List Value} {l m : List α} {size base g n c : Nat} {e : TypeId} (hi : T[i]? = some (rowl f base e size (.slice (some ⟨g, 0, none⟩) n c) (l ++ m))) (hf : ∀ x, (f x).length = size) :
    Weak w0 T (T.set i (rowl f base e size (.slice (some ⟨g, 0, none⟩) l.length c) l)) := fun w hM => by
  have h : w.ownsRow base e size (.slice (some ⟨g, 0, none⟩) n c) (l ++ m).length ((l ++ m).flatMap f) := hM.ok _ (List.mem_of_getElem? hi)
  have hlt := hM.lt _ (List.mem_of_getElem? hi) g rfl
  refine hM.upd hi (Chg.of_below (Below.refl _ _)) ?_ (fun k hk => ?_)
  · rcases h.2 with ⟨h1, _⟩ | ⟨g', cap, cur, h1, h2, h3, h4, h5, h6, h7⟩
    · cases h1
    · simp only [Value.slice.injEq, Option.some.injEq, Addr.mk.injEq] at h1
      obtain ⟨⟨rfl, _, _⟩, _, rfl⟩ := h1
      refine ⟨flat_len hf l, .inr ⟨g, c, cur, rfl, h2, h3, by simp at h4; omega, h5, h6, ?_⟩⟩
      have h8 := congrArg (List.take (l.length * size)) h7
      rw [List.take_take, List.flatMap_append, List.take_append_of_le_length (by rw [flat_len hf]; omega), List.take_of_length_le (l := l.flatMap f) (by rw [flat_len hf]; omega)] at h8
      rw [← h8]; congr 1
      rw [Nat.min_eq_left]
      exact Nat.mul_le_mul_right _ (by simp)
  · have hk' : some g = some k := hk
    injection hk' with hk'
    subst hk'
    exact ⟨.inl rfl, hlt⟩
variable {P : Program} {ρ : Env} {dst : Option Tmp} {ty : TypeId} {pos : String} {af : Array Edge} {gd : Option (Nat × Bool)} {x z : Operand} {t : TypeId}
theorem y_trunc {e : TypeId} {s g len cap m : Nat} {hi : Int} {kh : IntKind} (ht : P.underlying t = some (.slice e)) (hs : ∀ w, (sizeOf e).run P w = .ok s w)
    (hx : ev ρ x = .slice (some ⟨g, 0, none⟩) len cap) (hz : ev ρ z = .int kh hi) (h0 : 0 ≤ hi) (h2 : hi ≤ cap) (hm : hi.toNat = m) :
    Yield P w0 T ρ ⟨dst, .slice t x none (some z) none, ty, pos, af, gd⟩ (.slice (some ⟨g, 0, none⟩) m cap) := by
  have h := y_slice_hi (P := P) (w0 := w0) (T := T) (dst := dst) (ty := ty) (pos := pos) (af := af) (gd := gd) ht hs hx hz h0 h2
  subst hm
  have e1 : sliced (some ⟨g, 0, none⟩) 0 hi.toNat cap s = .slice (some ⟨g, 0, none⟩) hi.toNat cap := by
    unfold sliced
    simp [Addr.add_lit]
  rwa [e1] at h
theorem y_cat {yt : TypeId} {y : Operand} {a b : ByteArray} (hx : ev ρ x = .string a) (hy : ev ρ y = .string b) (h : a.size + b.size ≤ 9223372036854775807) :
    Yield P w0 T ρ ⟨dst, .binOp .add t x y yt, ty, pos, af, gd⟩ (.string (a ++ b)) := fun w _ => by
  have h1 : ¬ (((a.size + b.size : Nat) : Int) > IntKind.i64.max) := by
    have : IntKind.i64.max = 9223372036854775807 := by decide
    omega
  have h2 : (Op.stringOp .add a b).run P w = .ok (.string (a ++ b)) w := by
    unfold Op.stringOp
    simp only [if_neg h1]
    rfl
  simp only [execOp, go_sem, hx, hy]
  simp [h2]
theorem src_row (i : Nat) {α : Type} {f : α → List Value} {l : List α} {size base n c : Nat} {e : TypeId} {A : Option Addr} (hi : T[i]? = some (rowl f base e size (.slice A n c) l)) (hf : ∀ x, (f x).length = size) : ∀ w, Mem w0 T w → Src w size A l.length (l.flatMap f) :=
  fun _w hM => Rdl.src (row_rdl hf (hM.ok _ (List.mem_of_getElem? hi))) hf
end
theorem pigeon {α : Type} [DecidableEq α] : ∀ (S U : List α), S.Nodup → (∀ x ∈ S, x ∈ U) → S.length ≤ U.length
  | [], _, _, _ => Nat.zero_le _
  | a :: S, U, hn, hs => by
    have ha := hs a (by simp)
    have hn' := List.nodup_cons.1 hn
    have ih := pigeon S (U.erase a) hn'.2 (fun x hx => (List.mem_erase_of_ne (fun e => hn'.1 (by rw [← e]; exact hx))).2 (hs x (by simp [hx])))
    rw [List.length_erase_of_mem ha] at ih
    have := List.length_pos_of_mem ha
    simp only [List.length_cons]; omega
end Go.Cf
