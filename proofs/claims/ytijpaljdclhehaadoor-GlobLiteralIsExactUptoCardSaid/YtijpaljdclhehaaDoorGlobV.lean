/- Fixed parts, literals: the plain laws. Program independent. -/
import Derived.Test.YtijpaljdclhehaaDoorGlobS
import Derived.Lib.IndexAny
import Derived.Lib.Join
namespace Go.Cf
open Go.RowKit
def wildP (s : ByteArray) : Bool := Lib.containsAny s.data.toList [42, 63]
theorem any_step (chars : List UInt8) (b : UInt8) (l : List UInt8) : 0 ≤ Lib.indexAny (b :: l) chars ↔ chars.contains b = true ∨ 0 ≤ Lib.indexAny l chars := by
  have hg := Lib.indexAny_ge chars l
  rw [Lib.indexAny]
  by_cases h : chars.contains b = true
  · rw [if_pos h]; exact ⟨fun _ => .inl h, fun _ => by omega⟩
  · rw [if_neg h]
    by_cases h2 : Lib.indexAny l chars = -1
    · rw [if_pos (by simpa using h2), h2]; exact ⟨fun h3 => by omega, fun h3 => h3.elim (fun h4 => absurd h4 h) (fun h4 => by omega)⟩
    · rw [if_neg (by simpa using h2)]
      constructor
      · intro _; right; omega
      · intro _; omega
theorem any_iff (chars : List UInt8) : ∀ l : List UInt8, Lib.containsAny l chars = l.any (fun b => chars.contains b)
  | [] => rfl
  | b :: l => by
    have ih := any_iff chars l
    unfold Lib.containsAny at ih ⊢
    rw [List.any_cons, ← ih, Bool.eq_iff_iff, decide_eq_true_iff, any_step, Bool.or_eq_true, decide_eq_true_iff]
theorem byte_of {s : ByteArray} {i : Nat} {b : UInt8} (h : s.data.toList[i]? = some b) : i < s.size ∧ byteAt s i = b.toNat := by
  obtain ⟨h1, h2⟩ := List.getElem?_eq_some_iff.1 h
  have h3 : i < s.size := by simpa using h1
  refine ⟨h3, ?_⟩
  unfold byteAt
  rw [h]; rfl
theorem byte_at {s : ByteArray} {i : Nat} (h : i < s.size) : ∃ b, s.data.toList[i]? = some b ∧ byteAt s i = b.toNat := by
  have h1 : i < s.data.toList.length := by simpa using h
  exact ⟨s.data.toList[i], List.getElem?_eq_getElem h1, (byte_of (List.getElem?_eq_getElem h1)).2⟩
theorem wildP_no {s : ByteArray} : wildP s = false ↔ ∀ i, i < s.size → byteAt s i ≠ 42 ∧ byteAt s i ≠ 63 := by
  unfold wildP
  rw [any_iff, List.any_eq_false]
  constructor
  · intro h i hi
    obtain ⟨b, h1, h2⟩ := byte_at hi
    have h3 := h b (List.mem_of_getElem? h1)
    rw [h2]
    constructor
    · intro e; exact h3 (by rw [show b = 42 from UInt8.toNat_inj.1 e]; decide)
    · intro e; exact h3 (by rw [show b = 63 from UInt8.toNat_inj.1 e]; decide)
  · intro h b hb
    obtain ⟨i, hi, rfl⟩ := List.getElem_of_mem hb
    obtain ⟨h1, h2⟩ := byte_of (List.getElem?_eq_getElem hi)
    have h3 := h i h1
    rw [h2] at h3
    intro hc
    have h4 : s.data.toList[i] = 42 ∨ s.data.toList[i] = 63 := by simpa using hc
    rcases h4 with h4 | h4
    · exact h3.1 (by rw [h4]; rfl)
    · exact h3.2 (by rw [h4]; rfl)
/-- the bytes of a part -/
def asc (s : ByteArray) : Prop := ∀ (j : Nat) b, s.data.toList[j]? = some b → b.toNat < 128
theorem scan_ok {s : ByteArray} : ∀ m, m ≤ s.size → scanP s m = 0 → ∀ i, s.size - m ≤ i → i < s.size → charBad s i = false
  | 0, _, _, i, h1, h2 => by omega
  | m + 1, hm, h, i, h1, h2 => by
    rw [scanP] at h
    split at h
    · cases h
    · split at h
      · cases h
      · rename_i hw hc
        rcases Nat.lt_or_ge (s.size - (m + 1)) i with h3 | h3
        · exact scan_ok m (by omega) h i (by omega) h2
        · obtain rfl : i = s.size - (m + 1) := by omega
          simpa using hc
theorem part_asc {s : ByteArray} (h : partCode s = 0) : asc s := by
  unfold partCode at h
  split at h
  · cases h
  · split at h
    · rename_i hs
      obtain rfl := strEq_eq.1 hs
      intro j b hb
      have : b ∈ [(42 : UInt8), 42] := List.mem_of_getElem? hb
      simp at this
      subst this; decide
    · intro j b hb
      obtain ⟨h1, h2⟩ := byte_of hb
      have h3 := scan_ok s.size (Nat.le_refl _) h j (by omega) h1
      unfold charBad at h3
      rw [← h2]
      by_cases h4 : byteAt s j = 42
      · omega
      · by_cases h5 : byteAt s j = 63
        · omega
        · have h6 : letterB (byteAt s j) = true := by simpa [h4, h5] using h3
          unfold letterB at h6
          have := of_decide_eq_true h6
          omega
theorem parts_zero : ∀ {l : List ByteArray}, partsCode l = 0 → ∀ x ∈ l, partCode x = 0
  | [], _, x, hx => by cases hx
  | p :: l, h, x, hx => by
    rw [partsCode] at h
    split at h
    · rename_i hp
      rcases List.mem_cons.1 hx with rfl | hx
      · exact hp
      · exact parts_zero h x hx
    · rename_i hp; exact absurd h hp
theorem pat_parts {s : ByteArray} (h : patFault s = ⟨0, 0⟩) : ∀ x ∈ cutS s, partCode x = 0 := by
  have h1 := patFault_zero.2 h
  unfold patFault at h1
  have h2 : patCode s = 0 := by
    by_cases h3 : patCode s = 0
    · exact h3
    · rw [if_neg h3] at h1; simp at h1; omega
  unfold patCode at h2
  split at h2
  · cases h2
  · exact parts_zero h2
def fixL (l : List ByteArray) : List ByteArray := l.takeWhile (fun p => !wildP p)
def idxW (l : List ByteArray) : Int := if (fixL l).length < l.length then ((fixL l).length : Int) else -1
theorem fix_hit : ∀ {l : List ByteArray} {k : Nat} (hk : k < l.length), (∀ j (h : j < l.length), j < k → wildP l[j] = false) → wildP l[k] = true → fixL l = l.take k
  | [], k, hk, _, _ => by simp at hk
  | p :: l, 0, _, _, h => by
    have hp : wildP p = true := h
    unfold fixL
    rw [List.takeWhile_cons, hp]; rfl
  | p :: l, k + 1, hk, hz, h => by
    have hp : wildP p = false := hz 0 (by simp) (by omega)
    have ih := fix_hit (l := l) (k := k) (by simpa using hk) (fun j hj h1 => hz (j + 1) (by simpa using hj) (by omega)) (by simpa using h)
    unfold fixL at ih ⊢
    rw [List.takeWhile_cons, hp]
    simp [ih]
theorem fix_all {l : List ByteArray} (h : ∀ j (hj : j < l.length), wildP l[j] = false) : fixL l = l := by
  unfold fixL
  induction l with
  | nil => rfl
  | cons p l ih =>
    have hp : wildP p = false := h 0 (by simp)
    rw [List.takeWhile_cons, hp]
    have := ih (fun j hj => h (j + 1) (by simpa using hj))
    simp [this]
theorem idx_hitW {l : List ByteArray} {k : Nat} (hk : k < l.length) (hz : ∀ j (h : j < l.length), j < k → wildP l[j] = false) (h : wildP l[k] = true) : idxW l = k := by
  have h1 := congrArg List.length (fix_hit hk hz h)
  rw [List.length_take, Nat.min_eq_left (by omega)] at h1
  unfold idxW
  rw [if_pos (by omega), h1]
theorem idx_noneW {l : List ByteArray} (h : ∀ j (hj : j < l.length), wildP l[j] = false) : idxW l = -1 := by
  unfold idxW
  rw [fix_all h, if_neg (by omega)]
theorem idx_take {l : List ByteArray} (h : 0 ≤ idxW l) : fixL l = l.take (idxW l).toNat ∧ (idxW l).toNat ≤ l.length := by
  unfold idxW at h ⊢
  split at h
  · rename_i hl
    rw [if_pos hl]
    refine ⟨?_, by omega⟩
    have : fixL l <+: l := List.takeWhile_prefix _
    rw [show ((fixL l).length : Int).toNat = (fixL l).length by omega]
    exact List.prefix_iff_eq_take.1 this
  · omega
theorem idx_nota {l : List ByteArray} (h : ¬ 0 ≤ idxW l) : fixL l = l := by
  unfold idxW at h
  split at h
  · omega
  · rename_i hl
    have h1 : fixL l <+: l := List.takeWhile_prefix _
    exact h1.eq_of_length (by have := h1.length_le; omega)
theorem fix_len {l : List ByteArray} (h : 0 ≤ idxW l) : (idxW l).toNat = (fixL l).length := by
  obtain ⟨h1, h2⟩ := idx_take h
  rw [h1, List.length_take, Nat.min_eq_left h2]
theorem fix_get {l : List ByteArray} {j : Nat} {x : ByteArray} (h : (fixL l)[j]? = some x) : l[j]? = some x := by
  have h1 : fixL l <+: l := List.takeWhile_prefix _
  obtain ⟨r, hr⟩ := h1
  rw [← hr, List.getElem?_append_left (List.getElem?_eq_some_iff.1 h).1]
  exact h
theorem fix_le (l : List ByteArray) : (fixL l).length ≤ l.length := List.IsPrefix.length_le (List.takeWhile_prefix _)
theorem fix_take (l : List ByteArray) : fixL l = l.take (fixL l).length := List.prefix_iff_eq_take.1 (List.takeWhile_prefix _)
theorem cutS_pos (s : ByteArray) : 0 < (cutS s).length := by
  unfold cutS
  rw [List.length_map]
  exact List.length_pos_iff.2 (splitL_ne _)
theorem row_str {l : List ByteArray} {base g n c j : Nat} {e : TypeId} {w : World} {x : ByteArray} (h : (rowl strCells base e 1 (.slice (some ⟨g, 0, none⟩) n c) l).ok w) (hn : n = l.length) (hx : l[j]? = some x) : w.cell? ⟨g, 0 + j, none⟩ = some (.string x) := by
  subst hn
  have h' : w.ownsRow base e 1 (.slice (some ⟨g, 0, none⟩) l.length c) l.length (l.flatMap strCells) := h
  have := h'.cells (g := g) rfl (j * 1 + 0) (.string x) (flat_at (f := strCells) (fun _ => rfl) l j x hx 0 _ rfl)
  rw [Addr.add_lit] at this
  simpa using this
def joinS (l : List ByteArray) : ByteArray := ⟨(Lib.join (l.map (·.data.toList)) [47]).toArray⟩
def fixedV (s : ByteArray) : ByteArray := if patFault s = ⟨0, 0⟩ then joinS (fixL (cutS s)) else ⟨#[]⟩
theorem join_splitL : ∀ l : Bs, Lib.join (splitL l) [47] = l
  | [] => rfl
  | c :: r => by
    have ih := join_splitL r
    simp only [splitL]
    split
    · rename_i hc
      subst hc
      rw [Lib.join_cons]
      cases h : splitL r with
      | nil => exact absurd h (splitL_ne r)
      | cons x y =>
        rw [h, Lib.join_cons] at ih
        simp only [Lib.joinTail, List.map_cons, List.flatten_cons, List.nil_append] at ih ⊢
        rw [← ih]; simp
    · cases h : splitL r with
      | nil => exact absurd h (splitL_ne r)
      | cons x y =>
        rw [h, Lib.join_cons] at ih
        simp only [Lib.join_cons, List.cons_append, ih]
theorem cut_bytes (s : ByteArray) : (cutS s).map (·.data.toList) = splitL (bsOf s) := by
  unfold cutS
  rw [List.map_map]
  conv => rhs; rw [← List.map_id (splitL (bsOf s))]
  rfl
theorem join_cut (s : ByteArray) : joinS (cutS s) = s := by
  unfold joinS
  rw [cut_bytes, join_splitL]
  exact baOf_bsOf s
theorem join_app {a b : List (List UInt8)} (ha : a ≠ []) (hb : b ≠ []) : Lib.join (a ++ b) [47] = Lib.join a [47] ++ 47 :: Lib.join b [47] := by
  cases a with
  | nil => exact absurd rfl ha
  | cons x a =>
    cases b with
    | nil => exact absurd rfl hb
    | cons y b =>
      rw [List.cons_append, Lib.join_cons, Lib.join_cons, Lib.join_cons]
      simp [Lib.joinTail]
theorem lens_le : ∀ (l : Bs), (Lib.join (splitL l) [47]).length = l.length := fun l => by rw [join_splitL]
theorem join_take_len (s : ByteArray) (k : Nat) : (Lib.join (((cutS s).take k).map (·.data.toList)) [47]).length ≤ s.size := by
  have h : (Lib.join ((cutS s).map (·.data.toList)) [47]).length = s.size := by rw [cut_bytes, join_splitL, bsOf_len]
  rw [← h]
  have e : (cutS s).map (·.data.toList) = ((cutS s).take k).map (·.data.toList) ++ ((cutS s).drop k).map (·.data.toList) := by rw [← List.map_append, List.take_append_drop]
  by_cases h1 : ((cutS s).take k).map (·.data.toList) = []
  · rw [h1]; simp [Lib.join_nil]
  · by_cases h2 : ((cutS s).drop k).map (·.data.toList) = []
    · rw [e, h2, List.append_nil]; omega
    · rw [e, join_app h1 h2]; simp
theorem strEq_dec (a b : ByteArray) : (a.toList == b.toList) = decide (a = b) := by
  rw [Bool.eq_iff_iff, decide_eq_true_iff]; exact strEq_eq
/-! ### literals -/
section
variable {p q s : ByteArray}
theorem lit_pm (hp : wildP p = false) {i k : Nat} (h : Pm p s i k) : i = k ∧ ∀ j, j < k → byteAt p j = byteAt s j := by
  have hl := wildP_no.1 hp
  induction h with
  | start => exact ⟨rfl, fun _ h => by omega⟩
  | star _ hi hc => exact absurd hc (hl _ hi).1
  | eat _ hi _ hc => exact absurd hc (hl _ hi).1
  | char _ hi hk hc hd ih =>
    obtain ⟨rfl, h2⟩ := ih
    exact ⟨rfl, fun j hj => by
      rcases Nat.lt_succ_iff_lt_or_eq.1 hj with h3 | rfl
      · exact h2 j h3
      · exact hd.resolve_left (hl _ hi).2⟩
theorem lit_name (hp : wildP p = false) (h : nameM p s = true) : p = s := by
  obtain ⟨h1, h2⟩ := lit_pm hp (nameM_pm.1 h)
  exact ba_ext h1 (fun _ hi => h2 _ (by omega))
theorem lit_self (hp : wildP p = false) : nameM p p = true := by
  rw [nameM_pm]
  have hl := wildP_no.1 hp
  have key : ∀ k, k ≤ p.size → Pm p p k k := by
    intro k
    induction k with
    | zero => exact fun _ => .start
    | succ k ih => exact fun hk => .char (ih (by omega)) hk hk (hl _ hk).1 (.inr rfl)
  exact key _ (Nat.le_refl _)
theorem lit_stars (hp : wildP p = false) : strEq p sStars = false := by
  rw [strEq_no]
  rintro rfl
  exact absurd hp (by decide)
theorem name_lit (h : nameOk p = true) : wildP p = false := wildP_no.2 fun _ hi => lit_char (name_letter h hi)
theorem lit_reach (hp : wildP p = false) {x : Pl} (h : Reach p q x) : Pm q p x.2.1 x.1 := by
  have hl := wildP_no.1 hp
  induction h with
  | start => exact .start
  | @step x y _ hy ih =>
    rcases nextL_mem.1 hy with ⟨h1, h2, rfl⟩ | ⟨h1, h2, rfl⟩ | ⟨h1, h2, h3, rfl⟩
    · exact absurd h2 (hl _ h1).1
    · exact .star ih h1 h2
    · have hi : nxI p x = x.1 + 1 := by unfold nxI; rw [if_neg (hl _ h1).1]
      by_cases hs : byteAt q x.2.1 = 42
      · have hj : nxJ q x = x.2.1 := by unfold nxJ; rw [if_pos hs]
        rw [hi, hj]
        exact .eat ih h2 h1 hs
      · have hj : nxJ q x = x.2.1 + 1 := by unfold nxJ; rw [if_neg hs]
        rw [hi, hj]
        refine .char ih h2 h1 hs ?_
        rcases h3 with h3 | h3 | h3
        · unfold wildB at h3
          simp [(hl _ h1).1, (hl _ h1).2] at h3
        · unfold wildB at h3
          simp [hs] at h3
          exact .inl h3
        · exact .inr h3.symm
theorem lit_common (hp : nameOk p = true) : commonB p q = nameM q p := by
  rw [Bool.eq_iff_iff]
  constructor
  · intro h
    have := lit_reach (name_lit hp) (commonB_reach.1 h)
    exact nameM_pm.2 this
  · intro h
    exact common_of hp (lit_self (name_lit hp)) h
end
theorem lit_wk : ∀ {P N : List ByteArray}, (∀ p ∈ P, wildP p = false) → (wk P N = true ↔ P = N)
  | [], N, _ => by rw [wk]; cases N <;> simp
  | p :: P, N, h => by
    have hp := h p (by simp)
    rw [wk, if_neg (by simp [lit_stars hp])]
    cases N with
    | nil => simp [nameW]
    | cons n N =>
      rw [nameW, Bool.and_eq_true, lit_wk (fun x hx => h x (by simp [hx]))]
      constructor
      · rintro ⟨h1, rfl⟩; rw [lit_name hp h1]
      · intro e
        simp only [List.cons.injEq] at e
        obtain ⟨rfl, rfl⟩ := e
        exact ⟨lit_self hp, rfl⟩
theorem lit_ov : ∀ (N Q : List ByteArray), (∀ n ∈ N, nameOk n = true) → Ov N Q → Wk Q N := by
  intro N Q hn h
  induction h with
  | nil => exact .nil
  | @starL p P Q hp _ _ => exact absurd hp (by rw [name_stars (hn p (by simp))]; simp)
  | starR hq _ ih => exact .skip hq (ih hn)
  | @eatL p q P Q hp _ _ => exact absurd hp (by rw [name_stars (hn p (by simp))]; simp)
  | eatR hq _ ih => exact .eat hq (ih (fun x hx => hn x (by simp [hx])))
  | @both p q P Q _ hq hc _ ih => exact .name hq (by rw [← lit_common (hn p (by simp))]; exact hc) (ih (fun x hx => hn x (by simp [hx])))
theorem ov_wk {N Q : List ByteArray} (hn : ∀ n ∈ N, nameOk n = true) : ov N Q = wk Q N := by
  rw [Bool.eq_iff_iff]
  constructor
  · intro h; exact Wk_wk (lit_ov N Q hn (ov_Ov _ _ h))
  · intro h
    refine Ov_ov (meet_of (wk_Wk N N ?_) Q hn (wk_Wk _ _ h))
    exact (lit_wk (fun p hp => name_lit (hn p hp))).2 rfl
/-! ### the laws -/
theorem name_part {s : ByteArray} (h : nameOk s = true) : partCode s = 0 := by
  have hd : dotty s = false := by
    unfold nameOk at h
    unfold dotty
    simp only [Bool.and_eq_true, Bool.not_eq_true'] at h
    simp [h.2.1.1, h.2.1.2, h.2.2]
  unfold partCode
  rw [hd, name_stars h]
  simp only [Bool.false_eq_true, if_false]
  have key : ∀ m, m ≤ s.size → scanP s m = 0 := by
    intro m
    induction m with
    | zero => exact fun _ => rfl
    | succ m ih =>
      intro hm
      have hlt : s.size - (m + 1) < s.size := by omega
      have hl := name_letter h hlt
      have hc := lit_char hl
      rw [scanP, if_neg (by simp [wildBad, hc.1]), if_neg (by simp [charBad, hl])]
      exact ih (by omega)
  exact key _ (Nat.le_refl _)
theorem path_pat {s : ByteArray} (h : pathOk s = true) : patFault s = ⟨0, 0⟩ := by
  have h1 := pathOk_size h
  have h2 : patCode s = 0 := by
    unfold patCode
    rw [if_neg (by omega)]
    exact partsCode_zero fun j hj => name_part (pathOk_names h _ (List.getElem_mem hj))
  unfold patFault
  rw [if_pos h2]
section
variable {s o p : ByteArray}
theorem lit_match (h : pathOk s = true) : (matchF s s).code = 0 ∧ matchV s s = true := by
  have h1 := path_pat h
  refine ⟨matchF_zero.2 ⟨h1, h⟩, ?_⟩
  unfold matchV
  rw [if_pos ⟨h1, h⟩]
  exact (lit_wk (fun p hp => name_lit (pathOk_names h p hp))).2 rfl
theorem lit_exact (h : pathOk s = true) (h2 : (matchF s o).code = 0) : matchV s o = decide (s = o) := by
  rw [matchF_zero] at h2
  unfold matchV
  rw [if_pos h2, Bool.eq_iff_iff, lit_wk (fun p hp => name_lit (pathOk_names h p hp)), decide_eq_true_iff]
  constructor
  · intro e; rw [← join_cut s, e, join_cut]
  · intro e; rw [e]
theorem lit_over (h : pathOk s = true) (h2 : (matchF p s).code = 0) : (overF s p).code = 0 ∧ matchV p s = overV s p := by
  rw [matchF_zero] at h2
  have h1 := path_pat h
  refine ⟨overF_zero.2 ⟨h1, h2.1⟩, ?_⟩
  unfold matchV overV
  rw [if_pos h2, if_pos ⟨h1, h2.1⟩, ov_wk (pathOk_names h)]
theorem lit_fixed (h : pathOk s = true) : fixedV s = s := by
  unfold fixedV
  rw [if_pos (path_pat h), fix_all (fun j hj => name_lit (pathOk_names h _ (List.getElem_mem hj))), join_cut]
theorem bad_path (h : pathOk s = false) : (matchF s s).code ≠ 0 := fun h1 => by rw [(matchF_zero.1 h1).2] at h; cases h
theorem fix_wk : ∀ {P N : List ByteArray}, wk P N = true → ∃ N', N = fixL P ++ N'
  | [], N, _ => ⟨N, rfl⟩
  | p :: P, N, h => by
    by_cases hp : wildP p = true
    · exact ⟨N, by unfold fixL; rw [List.takeWhile_cons, hp]; rfl⟩
    · have hp' : wildP p = false := by simpa using hp
      rw [wk, if_neg (by simp [lit_stars hp'])] at h
      cases N with
      | nil => simp [nameW] at h
      | cons n N =>
        rw [nameW, Bool.and_eq_true] at h
        obtain ⟨N', e⟩ := fix_wk h.2
        refine ⟨N', ?_⟩
        unfold fixL at e ⊢
        rw [List.takeWhile_cons, hp', e, lit_name hp' h.1]; rfl
theorem fixed_front (h1 : (matchF p s).code = 0) (hv : matchV p s = true) (hne : fixedV p ≠ ⟨#[]⟩) :
    (fixedV p).size ≤ s.size ∧ s.extract 0 (fixedV p).size = fixedV p ∧ ((fixedV p).size < s.size → byteAt s (fixedV p).size = 47) := by
  rw [matchF_zero] at h1
  unfold matchV at hv
  rw [if_pos h1] at hv
  obtain ⟨N', e⟩ := fix_wk hv
  have hF : fixedV p = joinS (fixL (cutS p)) := by unfold fixedV; rw [if_pos h1.1]
  have hb : bsOf (fixedV p) = Lib.join ((fixL (cutS p)).map (·.data.toList)) [47] := by rw [hF]; rfl
  have hs : bsOf s = Lib.join (((fixL (cutS p)).map (·.data.toList)) ++ (N'.map (·.data.toList))) [47] := by
    rw [← List.map_append, ← e, cut_bytes, join_splitL]
  have hfn : (fixL (cutS p)).map (·.data.toList) ≠ [] := by
    intro h0
    rw [h0, Lib.join_nil] at hb
    exact hne (bs_inj hb)
  by_cases hN : N'.map (·.data.toList) = []
  · rw [hN, List.append_nil, ← hb] at hs
    have := bs_inj hs
    subst this
    exact ⟨Nat.le_refl _, bs_inj (by rw [bsOf_extract, Nat.sub_zero, List.drop_zero, List.take_of_length_le (by rw [bsOf_len]; omega)]), fun h => by omega⟩
  · rw [join_app hfn hN, ← hb] at hs
    have hlen := congrArg List.length hs
    rw [bsOf_len, List.length_append, bsOf_len, List.length_cons] at hlen
    refine ⟨by omega, bs_inj ?_, fun _ => ?_⟩
    · rw [bsOf_extract, Nat.sub_zero, List.drop_zero, hs, List.take_append_of_le_length (by rw [bsOf_len]; omega), List.take_of_length_le (by rw [bsOf_len]; omega)]
    · unfold byteAt
      rw [show s.data.toList = bsOf s from rfl, hs, List.getElem?_append_right (by rw [bsOf_len]; omega), bsOf_len, Nat.sub_self]
      rfl
end
end Go.Cf
