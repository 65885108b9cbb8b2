/- Own frame, plain models and walks, part 4 (texts of this claim put together). -/
import Derived.Test.YtbkameioedmlkaaGreatDoorP16c
namespace Go.Proofs.YtbkameioedmlkaaGreatDoor
open Go.RowKit Go.Cf
set_option maxRecDepth 10000
set_option maxHeartbeats 1000000 in
theorem clone_any (w : World) (A : Option Addr) (c : Nat) (l : List ByteArray) (hl : Rdl w 0 1 strCells A l) (hb : l.length * 16 ≤ 140737488355328) (hA : A = none → c = 0) :
    Calls Tryz.prog 29 #[.slice A l.length c] w fun e w' => ∃ v T', e = .returned v ∧ T' = [rowl strCells w.heap.size 9 1 v l] ∧ Mem w T' w' := by
  refine gcalls Tryz.func29 rfl Tryz.ntmps29 (Nat.le_of_ble_eq_true rfl) ?_
  refine gfrom [(0, .slice _ _ _)] ⟨rfl, trivial⟩ fun σ => ?_
  refine gseq fun N1 hN1 => ?_
  refine greg ?_
  refine gop (y_assign (v := .slice _ _ _) rfl) rfl rfl rfl ?_
  refine gops_nil ?_
  refine hN1 _ _ ?_
  refine gfrom [(0, .slice _ _ _)] ⟨rfl, trivial⟩ fun σ => ?_
  refine gseq fun N2 hN2 => ?_
  refine gseq fun N3 hN3 => ?_
  refine greg ?_
  refine gop (y_move (v := .slice _ _ _) rfl) rfl rfl rfl ?_
  refine gop (y_eqlnil Tryz.underlying22 rfl rfl) rfl rfl rfl ?_
  refine gops_nil ?_
  refine hN3 _ _ ?_
  refine gfrom [(0, .slice _ _ _), (4, .bool _)] ⟨rfl, rfl, trivial⟩ fun σ => ?_
  refine gcond (b := _) rfl (fun hc4 => ?_) (fun hc4 => ?_)
  · 
    obtain rfl : A = none := by simpa using hc4
    obtain rfl : l = [] := by
      cases l with
      | nil => rfl
      | cons x t => obtain ⟨_, h, _⟩ := hl (by simp); cases h
    refine gseq fun N4 hN4 => ?_
    refine greg ?_
    refine gop (y_assign (v := .slice _ _ _) rfl) rfl rfl rfl ?_
    refine gops_nil ?_
    refine hN4 _ _ ?_
    refine gfrom [(2, .slice _ _ _)] ⟨rfl, trivial⟩ fun σ => ?_
    refine gret fun w1 hM => ?_
    refine ⟨_, res1 rfl (rt (v := .slice _ _ _) rfl), ?_⟩
    exact ⟨_, _, rfl, rfl, mem_nilrow strCells _ 1 hM⟩
  · 
    refine gskip ?_
    refine hN2 _ _ ?_
    refine gfrom [(0, .slice _ _ _)] ⟨rfl, trivial⟩ fun σ => ?_
    refine gseq fun N5 hN5 => ?_
    refine greg ?_
    refine gop_bslice0 strCells Tryz.underlying22 Tryz.sizeOf9 rfl (fun b5 hb5 => ?_)
    refine gop (y_move (v := .slice _ _ _) rfl) rfl rfl rfl ?_
    refine gop_append 0 (f := strCells) (l2 := l) Tryz.underlying22 el9 wide_str (v := .slice (some ⟨b5, 0, none⟩) 0 0) rfl rfl rfl rfl hA (by simp [maxLen]; omega) (by simp; omega) (fun w hM => (hl.base hM).src (fun _ => rfl)) rfl (fun v7 => ?_)
    refine gop (y_assign (v := v7) rfl) rfl rfl rfl ?_
    refine gops_nil ?_
    refine hN5 _ _ ?_
    refine gT [rowl _ _ _ _ _ _] rfl ?_
    refine gfrom [(2, v7)] ⟨rfl, trivial⟩ fun σ => ?_
    refine gret fun w1 hM => ?_
    refine ⟨_, res1 rfl (rt (v := v7) rfl), ?_⟩
    exact ⟨_, _, rfl, rfl, hM⟩
set_option maxHeartbeats 1000000 in
theorem occurs_any (w : World) (A : Option Addr) (c : Nat) (l : List ByteArray) (hl : Rdl w 0 1 strCells A l) (hlc : l.length ≤ c) (hcm : c ≤ maxLen) (B : Option Addr) (d : Nat) (m : List ByteArray) (hm : Rdl w 0 1 strCells B m) (hmm : m.length ≤ maxLen) (a : Int) : Calls Tryz.prog 114 #[.slice A l.length c, .slice B m.length d, .int .i64 a] w fun e w' => e = .returned (.bool (occ l m a)) ∧ Below w.heap.size w w' := by
  have hmx : maxLen = 9223372036854775807 := rfl
  refine gcalls Tryz.func114 rfl Tryz.ntmps114 (Nat.le_of_ble_eq_true rfl) ?_
  refine gfrom [(0, .slice _ _ _), (1, .slice _ _ _), (2, .int _ _)] ⟨rfl, rfl, rfl, trivial⟩ fun σ => ?_
  refine gseq fun N1 hN1 => ?_
  refine greg ?_
  refine gop (y_assign (v := .bool _) rfl) rfl rfl rfl ?_
  refine gops_nil ?_
  refine hN1 _ _ ?_
  refine gfrom [(0, .slice _ _ _), (1, .slice _ _ _), (2, .int _ _)] ⟨rfl, rfl, rfl, trivial⟩ fun σ => ?_
  refine gseq fun N2 hN2 => ?_
  refine greg ?_
  refine gop (y_move (v := .int _ _) rfl) rfl rfl rfl ?_
  refine gop (y_geq rfl rfl) rfl rfl rfl ?_
  refine gop (y_move (v := .bool _) rfl) rfl rfl rfl ?_
  refine gop_if (want := true) rfl rfl rfl rfl rfl rfl (fun hg9 => ?_) (fun hg9 => ?_)
  · 
    have hg9d := of_decide_eq_true hg9
    refine gop (y_bare (y_move (v := .int _ _) rfl)) rfl rfl rfl ?_
    refine gop_on rfl rfl rfl rfl hg9 ?_
    refine gop (y_bare (y_move (v := .slice _ _ _) rfl)) rfl rfl rfl ?_
    refine gop_on rfl rfl rfl rfl hg9 ?_
    refine gop (y_bare (y_len Tryz.underlying22 rfl)) rfl rfl rfl ?_
    refine gop_on rfl rfl rfl rfl hg9 ?_
    refine gop (y_bare (y_leq rfl rfl)) rfl rfl rfl ?_
    refine gop (y_pick_t (v := .bool _) rfl hg9 rfl) rfl rfl rfl ?_
    refine gop (y_move (v := .bool _) rfl) rfl rfl rfl ?_
    refine gop_if (want := true) rfl rfl rfl rfl rfl rfl (fun hg15 => ?_) (fun hg15 => ?_)
    · 
      have hg15d := of_decide_eq_true hg15
      refine gop (y_bare (y_move (v := .slice _ _ _) rfl)) rfl rfl rfl ?_
      refine gop_on rfl rfl rfl rfl hg15 ?_
      refine gop (y_bare (y_len Tryz.underlying22 rfl)) rfl rfl rfl ?_
      refine gop_on rfl rfl rfl rfl hg15 ?_
      refine gop (y_bare (y_move (v := .slice _ _ _) rfl)) rfl rfl rfl ?_
      refine gop_on rfl rfl rfl rfl hg15 ?_
      refine gop (y_bare (y_len Tryz.underlying22 rfl)) rfl rfl rfl ?_
      refine gop_on rfl rfl rfl rfl hg15 ?_
      refine gop (y_bare (y_move (v := .int _ _) rfl)) rfl rfl rfl ?_
      refine gop_on rfl rfl rfl rfl hg15 ?_
      refine gop (y_bare (y_sub rfl rfl ⟨by omega, by omega⟩)) rfl rfl rfl ?_
      refine gop_on rfl rfl rfl rfl hg15 ?_
      refine gop (y_bare (y_leq rfl rfl)) rfl rfl rfl ?_
      refine gop (y_pick_t (v := .bool _) rfl hg15 rfl) rfl rfl rfl ?_
      refine gop (y_move (v := .bool _) rfl) rfl rfl rfl ?_
      refine gop_if (want := true) rfl rfl rfl rfl rfl rfl (fun hg24 => ?_) (fun hg24 => ?_)
      · 
        have hg24d := of_decide_eq_true hg24
        have he : (a + m.length).toNat - a.toNat = m.length := by omega
        refine gop (y_bare (y_move (v := .slice _ _ _) rfl)) rfl rfl rfl ?_
        refine gop_on rfl rfl rfl rfl hg24 ?_
        refine gop (y_bare (y_move (v := .int _ _) rfl)) rfl rfl rfl ?_
        refine gop_on rfl rfl rfl rfl hg24 ?_
        refine gop (y_bare (y_move (v := .int _ _) rfl)) rfl rfl rfl ?_
        refine gop_on rfl rfl rfl rfl hg24 ?_
        refine gop (y_bare (y_move (v := .slice _ _ _) rfl)) rfl rfl rfl ?_
        refine gop_on rfl rfl rfl rfl hg24 ?_
        refine gop (y_bare (y_len Tryz.underlying22 rfl)) rfl rfl rfl ?_
        refine gop_on rfl rfl rfl rfl hg24 ?_
        refine gop (y_bare (y_add rfl rfl ⟨by omega, by omega⟩)) rfl rfl rfl ?_
        refine gop_on rfl rfl rfl rfl hg24 ?_
        refine gop (y_bare (y_slice Tryz.underlying22 Tryz.sizeOf9 rfl rfl rfl (by omega) (by omega) (by omega))) rfl rfl rfl ?_
        refine gop_on rfl rfl rfl rfl hg24 ?_
        refine gop (y_bare (y_move (v := .slice _ _ _) rfl)) rfl rfl rfl ?_
        refine gop_on rfl rfl rfl rfl hg24 ?_
        refine gop_pure (e_call (vs := [.slice _ _ _, .slice _ _ _]) Tryz.func72 rfl (by kernel_rfl) rfl) (fun w hM => equal_any w _ _ _ _ ((l.drop a.toNat).take ((a + m.length).toNat - a.toNat)) m ((hl.cut (i := a.toNat) (j := (a + m.length).toNat) (cap := c) (by omega) (by omega) hlc).base hM) (hm.base hM) _ (by simp; omega) (by simp; omega)) rfl rfl rfl ?_
        refine gop (y_pick_t (v := .bool _) rfl hg24 rfl) rfl rfl rfl ?_
        refine gop (y_assign (v := .bool _) rfl) rfl rfl rfl ?_
        refine gops_nil ?_
        refine hN2 _ _ ?_
        refine gfrom [(6, .bool _)] ⟨rfl, trivial⟩ fun σ => ?_
        refine gret fun w1 hM => ?_
        refine ⟨_, res1 rfl (rt (v := .bool _) rfl), ?_⟩
        first | exact ⟨by rw [he]; simp [occ, hg9d, hg15d, hg24d], hM.low⟩ | exact ⟨by rw [show occ l m a = false from by unfold occ; simp; intros; omega], hM.low⟩
      · 
        have hg24d := of_decide_eq_false hg24
        refine gop_off rfl rfl rfl rfl hg24 rfl rfl ?_
        refine gop_off rfl rfl rfl rfl hg24 rfl rfl ?_
        refine gop_off rfl rfl rfl rfl hg24 rfl rfl ?_
        refine gop_off rfl rfl rfl rfl hg24 rfl rfl ?_
        refine gop_off rfl rfl rfl rfl hg24 rfl rfl ?_
        refine gop_off rfl rfl rfl rfl hg24 rfl rfl ?_
        refine gop_off rfl rfl rfl rfl hg24 rfl rfl ?_
        refine gop_off rfl rfl rfl rfl hg24 rfl rfl ?_
        refine gop (y_pick_f (v := .bool _) rfl hg24 rfl) rfl rfl rfl ?_
        refine gop (y_assign (v := .bool _) rfl) rfl rfl rfl ?_
        refine gops_nil ?_
        refine hN2 _ _ ?_
        refine gfrom [(6, .bool _)] ⟨rfl, trivial⟩ fun σ => ?_
        refine gret fun w1 hM => ?_
        refine ⟨_, res1 rfl (rt (v := .bool _) rfl), ?_⟩
        first | exact ⟨by rw [he]; simp [occ, hg9d, hg15d, hg24d], hM.low⟩ | exact ⟨by rw [show occ l m a = false from by unfold occ; simp; intros; omega], hM.low⟩
    · 
      have hg15d := of_decide_eq_false hg15
      refine gop_off rfl rfl rfl rfl hg15 rfl rfl ?_
      refine gop_off rfl rfl rfl rfl hg15 rfl rfl ?_
      refine gop_off rfl rfl rfl rfl hg15 rfl rfl ?_
      refine gop_off rfl rfl rfl rfl hg15 rfl rfl ?_
      refine gop_off rfl rfl rfl rfl hg15 rfl rfl ?_
      refine gop_off rfl rfl rfl rfl hg15 rfl rfl ?_
      refine gop (y_pick_f (v := .bool _) rfl hg15 rfl) rfl rfl rfl ?_
      refine gop (y_move (v := .bool _) rfl) rfl rfl rfl ?_
      refine gop_off rfl rfl rfl rfl rfl rfl rfl ?_
      refine gop_off rfl rfl rfl rfl rfl rfl rfl ?_
      refine gop_off rfl rfl rfl rfl rfl rfl rfl ?_
      refine gop_off rfl rfl rfl rfl rfl rfl rfl ?_
      refine gop_off rfl rfl rfl rfl rfl rfl rfl ?_
      refine gop_off rfl rfl rfl rfl rfl rfl rfl ?_
      refine gop_off rfl rfl rfl rfl rfl rfl rfl ?_
      refine gop_off rfl rfl rfl rfl rfl rfl rfl ?_
      refine gop_off rfl rfl rfl rfl rfl rfl rfl ?_
      refine gop (y_pick_f (v := .bool _) rfl rfl rfl) rfl rfl rfl ?_
      refine gop (y_assign (v := .bool _) rfl) rfl rfl rfl ?_
      refine gops_nil ?_
      refine hN2 _ _ ?_
      refine gfrom [(6, .bool _)] ⟨rfl, trivial⟩ fun σ => ?_
      refine gret fun w1 hM => ?_
      refine ⟨_, res1 rfl (rt (v := .bool _) rfl), ?_⟩
      first | exact ⟨by rw [he]; simp [occ, hg9d, hg15d, hg24d], hM.low⟩ | exact ⟨by rw [show occ l m a = false from by unfold occ; simp; intros; omega], hM.low⟩
  · 
    have hg9d := of_decide_eq_false hg9
    refine gop_off rfl rfl rfl rfl hg9 rfl rfl ?_
    refine gop_off rfl rfl rfl rfl hg9 rfl rfl ?_
    refine gop_off rfl rfl rfl rfl hg9 rfl rfl ?_
    refine gop (y_pick_f (v := .bool _) rfl hg9 rfl) rfl rfl rfl ?_
    refine gop (y_move (v := .bool _) rfl) rfl rfl rfl ?_
    refine gop_off rfl rfl rfl rfl rfl rfl rfl ?_
    refine gop_off rfl rfl rfl rfl rfl rfl rfl ?_
    refine gop_off rfl rfl rfl rfl rfl rfl rfl ?_
    refine gop_off rfl rfl rfl rfl rfl rfl rfl ?_
    refine gop_off rfl rfl rfl rfl rfl rfl rfl ?_
    refine gop_off rfl rfl rfl rfl rfl rfl rfl ?_
    refine gop_off rfl rfl rfl rfl rfl rfl rfl ?_
    refine gop (y_pick_f (v := .bool _) rfl rfl rfl) rfl rfl rfl ?_
    refine gop (y_move (v := .bool _) rfl) rfl rfl rfl ?_
    refine gop_off rfl rfl rfl rfl rfl rfl rfl ?_
    refine gop_off rfl rfl rfl rfl rfl rfl rfl ?_
    refine gop_off rfl rfl rfl rfl rfl rfl rfl ?_
    refine gop_off rfl rfl rfl rfl rfl rfl rfl ?_
    refine gop_off rfl rfl rfl rfl rfl rfl rfl ?_
    refine gop_off rfl rfl rfl rfl rfl rfl rfl ?_
    refine gop_off rfl rfl rfl rfl rfl rfl rfl ?_
    refine gop_off rfl rfl rfl rfl rfl rfl rfl ?_
    refine gop_off rfl rfl rfl rfl rfl rfl rfl ?_
    refine gop (y_pick_f (v := .bool _) rfl rfl rfl) rfl rfl rfl ?_
    refine gop (y_assign (v := .bool _) rfl) rfl rfl rfl ?_
    refine gops_nil ?_
    refine hN2 _ _ ?_
    refine gfrom [(6, .bool _)] ⟨rfl, trivial⟩ fun σ => ?_
    refine gret fun w1 hM => ?_
    refine ⟨_, res1 rfl (rt (v := .bool _) rfl), ?_⟩
    first | exact ⟨by rw [he]; simp [occ, hg9d, hg15d, hg24d], hM.low⟩ | exact ⟨by rw [show occ l m a = false from by unfold occ; simp; intros; omega], hM.low⟩
set_option maxHeartbeats 2000000 in
theorem raw_any (w : World) (A : Option Addr) (c : Nat) (hs : List HunkC) (hp : PatR w 0 A c hs) (B : Option Addr) (d : Nat) (text : List ByteArray) (ht : Rdl w 0 1 strCells B text) (htb : SB B text.length d 16) (v : PV (pls hs)) (htl : text.length ≤ 120) (hends : ∀ h ∈ pls hs, h.end_ ≤ text.length) :
    Calls Tryz.prog 115 #[.slice A hs.length c, .slice B text.length d, .int .i64 0, .int .i64 text.length] w fun e w' => ∃ v' T', e = .returned v' ∧ T' = [rowl strCells w.heap.size 9 1 v' (rawFrom 0 (pls hs) text)] ∧ Mem w T' w' := by
  have hvl : hs.length ≤ 130 := by simpa using v.len
  have htc := htb.len
  have htm := htb.max
  have hmx : maxLen = 9223372036854775807 := rfl
  refine gcalls Tryz.func115 rfl Tryz.ntmps115 (Nat.le_of_ble_eq_true rfl) ?_
  refine gfrom [(0, .slice _ _ _), (1, .slice _ _ _), (2, .int _ _), (3, .int _ _)] ⟨rfl, rfl, rfl, rfl, trivial⟩ fun σ => ?_
  refine gseq fun N1 hN1 => ?_
  refine greg ?_
  refine gop (y_assign (v := .slice _ _ _) rfl) rfl rfl rfl ?_
  refine gops_nil ?_
  refine hN1 _ _ ?_
  refine gfrom [(0, .slice _ _ _), (1, .slice _ _ _), (2, .int _ _), (3, .int _ _)] ⟨rfl, rfl, rfl, rfl, trivial⟩ fun σ => ?_
  refine gseq fun N2 hN2 => ?_
  refine greg ?_
  refine gop (y_assign (v := .slice _ _ _) rfl) rfl rfl rfl ?_
  refine gops_nil ?_
  refine hN2 _ _ ?_
  refine gfrom [(0, .slice _ _ _), (1, .slice _ _ _), (2, .int _ _), (3, .int _ _), (9, .slice _ _ _)] ⟨rfl, rfl, rfl, rfl, rfl, trivial⟩ fun σ => ?_
  refine gseq fun N3 hN3 => ?_
  refine gseq fun N4 hN4 => ?_
  refine greg ?_
  refine gop (y_move (v := .slice _ _ _) rfl) rfl rfl rfl ?_
  refine gop (y_len Tryz.underlying25 rfl) rfl rfl rfl ?_
  refine gop (y_move (v := .int _ _) rfl) rfl rfl rfl ?_
  refine gops_nil ?_
  refine hN4 _ _ ?_
  refine gfrom [(1, .slice _ _ _), (2, .int _ _), (3, .int _ _), (9, .slice _ _ _), (12, .slice _ _ _), (13, .int _ _), (14, .int _ _)] ⟨rfl, rfl, rfl, rfl, rfl, rfl, rfl, trivial⟩ fun σ => ?_
  refine gblock ?_
  refine gnilrow strCells 9 1 ?_
  refine gfrom2 [(2, .int _ _), (9, .slice _ _ _), (14, .int _ _)] [(1, .slice _ _ _), (3, .int _ _), (12, .slice _ _ _), (13, .int _ _)] ⟨rfl, rfl, rfl, trivial⟩ ⟨rfl, rfl, rfl, rfl, trivial⟩ fun σ => ?_
  refine gloop2 (G := Nat × Nat × Option Addr × Nat × List ByteArray) (fun (k, low, Av, cv, l) => k ≤ hs.length ∧ (∀ h : k < (pls hs).length, (low : Int) ≤ (pls hs)[k].at_) ∧ low ≤ text.length ∧ l.length ≤ 240 * k ∧ l ++ rawFrom low ((pls hs).drop k) text = rawFrom 0 (pls hs) text) (fun (k, low, Av, cv, l) => hs.length - k) (fun (k, low, Av, cv, l) => [(2, .int .i64 (low : Int)), (9, .slice Av l.length cv), (14, .int .i64 (k : Int))]) (fun (k, low, Av, cv, l) => [(0, rowl strCells w.heap.size 9 1 (.slice Av l.length cv) (l))]) ((0, 0, none, 0, [])) ?h0 ⟨rfl, rfl, rfl, trivial⟩ ⟨rfl, rfl, rfl, rfl, trivial⟩ rfl ?round
  case h0 => exact ⟨Nat.zero_le _, fun h => (v.at_ 0 h).lo, Nat.zero_le _, by simp, by simp⟩
  case round =>
    rintro ⟨k, low, Av, cv, l⟩ hφ σ
    obtain ⟨hk, hlow, hlt, hll, hraw⟩ := hφ
    refine gT [rowl _ _ _ _ _ _] rfl ?_
    refine gseq fun N5 hN5 => ?_
    refine greg ?_
    refine gop (y_lss rfl rfl) rfl rfl rfl ?_
    refine gops_nil ?_
    refine hN5 _ _ ?_
    refine gfrom [(1, .slice _ _ _), (2, .int _ _), (3, .int _ _), (9, .slice Av _ cv), (12, .slice _ _ _), (13, .int _ _), (14, .int _ _), (15, .bool _)] ⟨rfl, rfl, rfl, rfl, rfl, rfl, rfl, rfl, trivial⟩ fun σ => ?_
    refine gseq fun N6 hN6 => ?_
    refine gcond (b := _) rfl (fun hc15 => ?_) (fun hc15 => ?_)
    · 
      replace hc15 := of_decide_eq_true hc15
      have hk1 : k < hs.length := by omega
      have hk2 : k < (pls hs).length := by simpa using hk1
      obtain ⟨ad, rfl, -, hcv⟩ := hp.rd.at_ hk1
      have hR := hp.each _ (List.getElem_mem hk1)
      have hlo := hlow hk2
      have hen := hends _ (List.getElem_mem hk2)
      have hB := v.hb k hk2
      rw [List.getElem_map] at hlo hen hB
      have hB1 := hB.lo
      have hB2 := hB.hi
      have hB3 := hB.old
      have hB4 := hB.new
      have hee : hs[k].pl.end_ = hs[k].pl.at_ + hs[k].pl.old.length := rfl
      refine gskip ?_
      refine hN6 _ _ ?_
      refine gfrom [(1, .slice _ _ _), (2, .int _ _), (3, .int _ _), (9, .slice Av _ cv), (12, .slice _ _ _), (13, .int _ _), (14, .int _ _)] ⟨rfl, rfl, rfl, rfl, rfl, rfl, rfl, trivial⟩ fun σ => ?_
      refine gseq fun N7 hN7 => ?_
      refine gblock ?_
      refine gseq fun N8 hN8 => ?_
      refine greg ?_
      refine gop (y_indexAddr Tryz.underlying25 Tryz.sizeOf92 rfl rfl rfl (by omega) (by omega)) rfl rfl rfl ?_
      refine gop (y_loads (cs := [_, _, _]) Tryz.isAgg92 Tryz.sizeOf92 rfl rfl (cells_base hcv)) rfl rfl rfl ?_
      refine gop_alloc (cs := #[.int .i64 0, .slice none 0 0, .slice none 0 0]) Tryz.zeroValue92 rfl rfl (fun b11 hb11 => ?_)
      refine gop_store 1 (v := .agg #[_, _, _]) (cs' := #[_, _, _]) rfl rfl Tryz.sizeOf92 rfl rfl rfl rfl (Nat.le_of_ble_eq_true rfl) rfl rfl ?_
      refine gops_nil ?_
      refine hN8 _ _ ?_
      refine gT [rowl _ _ _ _ _ _, box b11 _] rfl ?_
      refine gfrom [(1, .slice _ _ _), (2, .int _ _), (3, .int _ _), (9, .slice Av _ cv), (11, .pointer _), (12, .slice _ _ _), (13, .int _ _), (14, .int _ _)] ⟨rfl, rfl, rfl, rfl, rfl, rfl, rfl, rfl, trivial⟩ fun σ => ?_
      refine gseq fun N9 hN9 => ?_
      refine greg_e1 [] [(0, emp)] (by kernel_rfl) ?_
      refine ge_take 0 (TK := [emp, box b11 _]) rfl (by kernel_rfl) (by kernel_rfl) (by kernel_rfl) #[false, true, true, true, true, true, false, true, true, false, false] (by kernel_rfl) rfl (y_move (v := .slice Av _ cv) rfl) rfl rfl rfl (weak_emp 0 rfl) (listed' := #[true, false, false, false, false, false, false, false, false, false, false]) rfl ?_
      refine ge_take 1 (TK := [emp, box b11 _]) rfl (by kernel_rfl) (by kernel_rfl) (by kernel_rfl) #[true, false, true, true, true, false, false, true, true, false, false] (by kernel_rfl) rfl (y_move (v := .slice _ _ _) rfl) rfl rfl rfl (weak_emp 0 rfl) (listed' := #[true, true, false, false, false, false, false, false, false, false, false]) rfl ?_
      refine ge_take 2 (TK := [emp, box b11 _]) rfl (by kernel_rfl) (by kernel_rfl) (by kernel_rfl) #[true, true, false, true, true, false, false, true, true, false, false] (by kernel_rfl) rfl (y_move (v := .int _ _) rfl) rfl rfl rfl (weak_emp 0 rfl) (listed' := #[true, true, true, false, false, false, false, false, false, false, false]) rfl ?_
      refine ge_take 3 (TK := [emp, box b11 _]) rfl (by kernel_rfl) (by kernel_rfl) (by kernel_rfl) #[true, true, true, false, false, false, false, true, true, false, false] (by kernel_rfl) rfl (y_fieldAddr_box fa92_0 rfl) rfl rfl rfl (weak_emp 0 rfl) (listed' := #[true, true, true, true, false, false, false, false, false, false, false]) rfl ?_
      refine ge_take 4 (TK := [emp, box b11 _]) rfl (by kernel_rfl) (by kernel_rfl) (by kernel_rfl) #[true, true, true, true, false, false, false, true, true, false, false] (by kernel_rfl) rfl (y_load Tryz.isAgg3 rfl (cell_box 1 rfl rfl)) rfl rfl rfl (weak_emp 0 rfl) (listed' := #[true, true, true, true, true, false, false, false, false, false, false]) rfl ?_
      refine ge_take 5 (TK := [emp, box b11 _]) rfl (by kernel_rfl) (by kernel_rfl) (by kernel_rfl) #[true, true, true, true, true, false, false, true, true, false, false] (by kernel_rfl) rfl (y_slice Tryz.underlying22 Tryz.sizeOf9 rfl rfl rfl (by omega) (by omega) (by omega)) rfl rfl rfl (weak_emp 0 rfl) (listed' := #[true, true, true, true, true, true, false, false, false, false, false]) rfl ?_
      refine ge_take 7 (TK := [emp, box b11 _]) rfl (by kernel_rfl) (by kernel_rfl) (by kernel_rfl) #[true, true, true, true, true, true, true, false, false, false, false] (by kernel_rfl) rfl (y_fieldAddr_box fa92_2 rfl) rfl rfl rfl (weak_emp 0 rfl) (listed' := #[true, true, true, true, true, true, false, true, false, false, false]) rfl ?_
      refine ge_take 8 (TK := [emp, box b11 _]) rfl (by kernel_rfl) (by kernel_rfl) (by kernel_rfl) #[true, true, true, true, true, true, true, true, false, false, false] (by kernel_rfl) rfl (y_load Tryz.isAgg22 rfl (cell_box 1 rfl rfl)) rfl rfl rfl (weak_emp 0 rfl) (listed' := #[true, true, true, true, true, true, false, true, true, false, false]) rfl ?_
      refine ge_one 6 (k' := 0) (listed' := #[true, true, true, true, true, true, true, true, true, false, false]) (by kernel_rfl) rfl rfl rfl ?_
      refine gop_append 0 (f := strCells) (l2 := ((text.drop low).take (hs[k].pl.at_.toNat - low))) Tryz.underlying22 el9 wide_str (v := .slice Av _ cv) rfl rfl rfl (by simp; omega) (cut_nil htb.nil) (by simp; omega) (by simp; omega) (fun w hM => ((ht.cut (i := low) (j := hs[k].pl.at_.toNat) (cap := d) (by omega) (by omega) htb.len).base hM).src (fun _ => rfl)) rfl (fun v24 => ?_)
      refine gops_nil ?_
      refine ge_fin (TK := [emp, box b11 _]) rfl (weak_emp 0 rfl) ?_
      refine ge_one 9 (k' := 0) (listed' := #[true, true, true, true, true, true, true, true, true, true, false]) (by kernel_rfl) rfl rfl rfl ?_
      refine gop_append 0 (f := strCells) (l2 := hs[k].pl.new) Tryz.underlying22 el9 wide_str (v := v24) rfl rfl rfl rfl hR.nb.nil (by simp; omega) (by simp; omega) (fun w hM => (hR.new.base hM).src (fun _ => rfl)) rfl (fun v27 => ?_)
      refine gops_fact (fun w hM => own_form (hM.own 0 rfl)) ?_
      rintro ⟨A27, c27, rfl, hc27, hm27⟩
      refine gops_nil ?_
      refine ge_fin (TK := [emp, box b11 _]) rfl (weak_emp 0 rfl) ?_
      refine ge_take 10 (TK := [emp, box b11 _]) rfl (by kernel_rfl) (by kernel_rfl) (by kernel_rfl) #[true, true, true, true, true, true, true, true, true, true, false] (by kernel_rfl) rfl (y_assign (v := .slice A27 _ c27) rfl) rfl rfl rfl (weak_emp 0 rfl) (listed' := #[true, true, true, true, true, true, true, true, true, true, true]) rfl ?_
      refine ge_done (by kernel_rfl) ?_
      refine hN9 _ _ ?_
      refine gT [rowl _ _ _ _ _ _, box b11 _] rfl ?_
      refine gfrom [(1, .slice _ _ _), (3, .int _ _), (9, .slice A27 _ c27), (11, .pointer _), (12, .slice _ _ _), (13, .int _ _), (14, .int _ _)] ⟨rfl, rfl, rfl, rfl, rfl, rfl, rfl, trivial⟩ fun σ => ?_
      refine greg ?_
      refine gop (y_loads (cs := [_, _, _]) Tryz.isAgg92 Tryz.sizeOf92 rfl rfl (cells_box 1 rfl)) rfl rfl rfl ?_
      refine gop_pure (e_call (vs := [.agg #[_, _, _]]) Tryz.func63 rfl (by kernel_rfl) rfl) (fun w hM => end_any w hs[k] (by unfold In64 Hunk.end_; omega)) rfl rfl rfl ?_
      refine gop (y_assign (v := .int _ _) rfl) rfl rfl rfl ?_
      refine gops_nil ?_
      refine hN7 _ _ ?_
      refine gfrom [(1, .slice _ _ _), (2, .int _ _), (3, .int _ _), (9, .slice A27 _ c27), (12, .slice _ _ _), (13, .int _ _), (14, .int _ _)] ⟨rfl, rfl, rfl, rfl, rfl, rfl, rfl, trivial⟩ fun σ => ?_
      refine greg ?_
      refine gop (y_add rfl rfl ⟨by omega, by omega⟩) rfl rfl rfl ?_
      refine gop (y_move (v := .int _ _) rfl) rfl rfl rfl ?_
      refine gops_nil ?_
      refine gnext2 ((k + 1, hs[k].pl.at_.toNat + hs[k].pl.old.length, A27, c27, (l ++ ((text.drop low).take (hs[k].pl.at_.toNat - low))) ++ hs[k].pl.new)) (by show hs.length - (k + 1) < hs.length - k; omega) (⟨by show k + 1 ≤ _; omega, fun h => ?hp, by show hs[k].pl.at_.toNat + _ ≤ _; omega, by simp; omega, by rw [← hraw, rawFrom_drop hk2, List.getElem_map]; simp [List.append_assoc]⟩) ⟨(congrArg (Value.int .i64) (by unfold Hunk.end_; omega)), rfl, rfl, trivial⟩ ⟨rfl, rfl, rfl, rfl, trivial⟩ ⟨_, rfl⟩
      case hp =>
        have h2 := v.before (k + 1) h k hk2 (by omega)
        simp only [List.getElem_map] at h2 ⊢
        have h3 : hs[k].pl.end_ = hs[k].pl.at_ + hs[k].pl.old.length := rfl
        show ((hs[k].pl.at_.toNat + hs[k].pl.old.length : Nat) : Int) ≤ _
        omega
    · 
      replace hc15 := of_decide_eq_false hc15
      have hfin : l ++ (text.drop low).take (text.length - low) = rawFrom 0 (pls hs) text := by rw [← hraw, show (pls hs).drop k = [] from List.drop_eq_nil_of_le (by simp; omega), rawFrom, List.take_of_length_le (by simp)]
      refine gexit ?_
      refine hN3 _ _ ?_
      refine gfrom [(1, .slice _ _ _), (2, .int _ _), (3, .int _ _), (9, .slice Av _ cv)] ⟨rfl, rfl, rfl, rfl, trivial⟩ fun σ => ?_
      refine gseq fun N10 hN10 => ?_
      refine greg ?_
      refine gop (y_move (v := .slice Av _ cv) rfl) rfl rfl rfl ?_
      refine gop (y_move (v := .slice _ _ _) rfl) rfl rfl rfl ?_
      refine gop (y_move (v := .int _ _) rfl) rfl rfl rfl ?_
      refine gop (y_move (v := .int _ _) rfl) rfl rfl rfl ?_
      refine gop (y_slice Tryz.underlying22 Tryz.sizeOf9 rfl rfl rfl (by omega) (by omega) (by omega)) rfl rfl rfl ?_
      refine gop_append 0 (f := strCells) (l2 := ((text.drop low).take (text.length - low))) Tryz.underlying22 el9 wide_str (v := .slice Av _ cv) rfl rfl rfl (by simp) (cut_nil htb.nil) (by simp; omega) (by simp; omega) (fun w hM => ((ht.cut (i := low) (j := text.length) (cap := d) (by omega) (by omega) htb.len).base hM).src (fun _ => rfl)) rfl (fun v36 => ?_)
      refine gop (y_assign (v := v36) rfl) rfl rfl rfl ?_
      refine gops_nil ?_
      refine hN10 _ _ ?_
      refine gT [rowl _ _ _ _ _ _] rfl ?_
      refine gfrom [(8, v36)] ⟨rfl, trivial⟩ fun σ => ?_
      refine gret fun w1 hM => ?_
      refine ⟨_, res1 rfl (rt (v := v36) rfl), ?_⟩
      rw [hfin] at hM
      exact ⟨_, _, rfl, rfl, hM⟩
set_option maxHeartbeats 2000000 in
theorem apply_any (w : World) (A : Option Addr) (c : Nat) (hs : List HunkC) (hp : PatR w 0 A c hs) (B : Option Addr) (d : Nat) (text : List ByteArray) (ht : Rdl w 0 1 strCells B text) (htb : SB B text.length d 16) :
    Calls Tryz.prog 91 #[.agg #[.slice A hs.length c], .slice B text.length d] w fun e w' => ∃ v' T', e = .returned (.tuple #[v', fv (applyF (pls hs) text)]) ∧ T' = [rowl strCells w.heap.size 9 1 v' (applyR (pls hs) text)] ∧ Mem w T' w' := by
  have htc := htb.len
  have htm := htb.max
  have hmx : maxLen = 9223372036854775807 := rfl
  refine gcalls Tryz.func91 rfl Tryz.ntmps91 (Nat.le_of_ble_eq_true rfl) ?_
  refine gfrom [(0, .agg #[_]), (1, .slice _ _ _)] ⟨rfl, rfl, trivial⟩ fun σ => ?_
  refine gseq fun N1 hN1 => ?_
  refine greg ?_
  refine gop_box (v := .agg #[_]) (cs := #[_]) rfl rfl rfl (fun b2 hb2 => ?_)
  refine gop (y_assign (v := .slice _ _ _) rfl) rfl rfl rfl ?_
  refine gop_alloc (cs := #[.int .i64 0, .int .i64 0]) Tryz.zeroValue33 rfl rfl (fun b5 hb5 => ?_)
  refine gops_nil ?_
  refine hN1 _ _ ?_
  refine gT [box b2 _, box b5 _] rfl ?_
  refine gfrom [(1, .slice _ _ _), (2, .pointer _), (5, .pointer _)] ⟨rfl, rfl, rfl, trivial⟩ fun σ => ?_
  refine gseq fun N2 hN2 => ?_
  refine gseq fun N3 hN3 => ?_
  refine greg ?_
  refine gop (y_loads (cs := [_]) Tryz.isAgg27 Tryz.sizeOf27 rfl rfl (cells_box 0 rfl)) rfl rfl rfl ?_
  refine gop_pure (e_call (vs := [.agg #[_]]) Tryz.func62 rfl (by kernel_rfl) rfl) (fun w hM => patchValidate_any w _ _ _ (PatR.lasts.base hp hM)) rfl rfl rfl ?_
  refine gop_alloc (cs := #[.int .i64 0, .int .i64 0]) Tryz.zeroValue33 rfl rfl (fun b6 hb6 => ?_)
  refine gop_store 2 (v := .agg #[_, _]) (cs' := #[_, _]) rfl rfl Tryz.sizeOf33 rfl rfl rfl rfl (Nat.le_of_ble_eq_true rfl) rfl rfl ?_
  refine gops_nil ?_
  refine hN3 _ _ ?_
  refine gT [box b2 _, box b5 _, box b6 _] rfl ?_
  refine gfrom [(1, .slice _ _ _), (2, .pointer _), (5, .pointer _), (6, .pointer _)] ⟨rfl, rfl, rfl, rfl, trivial⟩ fun σ => ?_
  refine gseq fun N4 hN4 => ?_
  refine greg ?_
  refine gop (y_loads (cs := [_, _]) Tryz.isAgg33 Tryz.sizeOf33 rfl rfl (cells_box 2 rfl)) rfl rfl rfl ?_
  refine gop (y_build (vs := []) (cells := #[.int .i64 0, .int .i64 0]) rfl bd33_) rfl rfl rfl ?_
  refine gop (y_bin (vx := .agg #[_, _]) (vy := .agg #[_, _]) rfl rfl (fun w => eg33 _ _ _ _ _ w) (fun w => ne33 _ _ _ _ w)) rfl rfl rfl ?_
  refine gops_nil ?_
  refine hN4 _ _ ?_
  refine gfrom [(1, .slice _ _ _), (2, .pointer _), (5, .pointer _), (6, .pointer _), (15, .bool _)] ⟨rfl, rfl, rfl, rfl, rfl, trivial⟩ fun σ => ?_
  refine gcond (b := _) rfl (fun hc15 => ?_) (fun hc15 => ?_)
  · 
    replace hc15 := fault_ne.1 hc15
    have hF : applyF (pls hs) text = patchF (pls hs) := by rw [applyF, if_pos hc15]
    refine gseq fun N5 hN5 => ?_
    refine greg_e1 [] [(1, room b5 33 2)] (by kernel_rfl) ?_
    refine ge_take 0 (TK := [box b2 _, room b5 33 2, box b6 _]) rfl (by kernel_rfl) (by kernel_rfl) (by kernel_rfl) #[false, true, false] (by kernel_rfl) rfl (y_loads (cs := [_, _]) Tryz.isAgg33 Tryz.sizeOf33 rfl rfl (cells_box 2 rfl)) rfl rfl rfl (weak_room 1 rfl rfl) (listed' := #[true, false, false]) rfl ?_
    refine ge_take 1 (TK := [box b2 _, room b5 33 2, box b6 _]) rfl (by kernel_rfl) (by kernel_rfl) (by kernel_rfl) #[true, false, false] (by kernel_rfl) rfl (y_assign (v := .slice _ _ _) rfl) rfl rfl rfl (weak_room 1 rfl rfl) (listed' := #[true, true, false]) rfl ?_
    refine ge_one 2 (k' := 0) (listed' := #[true, true, true]) (by kernel_rfl) rfl rfl rfl ?_
    refine gop_store 1 (v := .agg #[_, _]) (cs' := #[_, _]) rfl rfl Tryz.sizeOf33 rfl rfl rfl rfl (Nat.le_of_ble_eq_true rfl) rfl rfl ?_
    refine gops_nil ?_
    refine ge_fin (TK := [box b2 _, room b5 33 2, box b6 _]) rfl (weak_room 1 rfl rfl) ?_
    refine ge_done (by kernel_rfl) ?_
    refine hN5 _ _ ?_
    refine gT [box b2 _, box b5 _, box b6 _] rfl ?_
    refine gfrom [(4, .slice _ _ _), (5, .pointer _)] ⟨rfl, rfl, trivial⟩ fun σ => ?_
    refine gret fun w1 hM => ?_
    refine ⟨_, res2 rfl (rt (v := .slice _ _ _) rfl) (rc 1 (cs := [_, _]) hM rfl rfl Tryz.isAgg33 Tryz.sizeOf33 rfl), ?_⟩
    exact ⟨.slice none 0 0, [rowl strCells w.heap.size 9 1 (.slice none 0 0) []], by rw [hF], by rw [applyR, hF, if_neg (by first | assumption | simp)], (mem_nilrow strCells _ 1 hM).dropTo 3 rfl⟩
  · 
    replace hc15 := fault_eq.1 hc15
    have hv := patchF_ok.1 hc15
    have hvl : hs.length ≤ 130 := by simpa using hv.len
    refine gskip ?_
    refine hN2 _ _ ?_
    refine gfrom [(1, .slice _ _ _), (2, .pointer _), (5, .pointer _)] ⟨rfl, rfl, rfl, trivial⟩ fun σ => ?_
    refine gseq fun N6 hN6 => ?_
    refine gseq fun N7 hN7 => ?_
    refine greg ?_
    refine gop (y_move (v := .slice _ _ _) rfl) rfl rfl rfl ?_
    refine gop_pure (e_call (vs := [.slice _ _ _, _]) Tryz.func28 rfl (by kernel_rfl) rfl) (fun w hM => linesSecond_any w _ _ _ (ht.base hM) (by omega) (-2)) rfl rfl rfl ?_
    refine gop_alloc (cs := #[.int .i64 0, .int .i64 0]) Tryz.zeroValue33 rfl rfl (fun b7 hb7 => ?_)
    refine gop_store 3 (v := .agg #[_, _]) (cs' := #[_, _]) rfl rfl Tryz.sizeOf33 rfl rfl rfl rfl (Nat.le_of_ble_eq_true rfl) rfl rfl ?_
    refine gops_nil ?_
    refine hN7 _ _ ?_
    refine gT [box b2 _, box b5 _, box b6 _, box b7 _] rfl ?_
    refine gfrom [(1, .slice _ _ _), (2, .pointer _), (5, .pointer _), (7, .pointer _)] ⟨rfl, rfl, rfl, rfl, trivial⟩ fun σ => ?_
    refine gseq fun N8 hN8 => ?_
    refine greg ?_
    refine gop (y_loads (cs := [_, _]) Tryz.isAgg33 Tryz.sizeOf33 rfl rfl (cells_box 3 rfl)) rfl rfl rfl ?_
    refine gop (y_build (vs := []) (cells := #[.int .i64 0, .int .i64 0]) rfl bd33_) rfl rfl rfl ?_
    refine gop (y_bin (vx := .agg #[_, _]) (vy := .agg #[_, _]) rfl rfl (fun w => eg33 _ _ _ _ _ w) (fun w => ne33 _ _ _ _ w)) rfl rfl rfl ?_
    refine gops_nil ?_
    refine hN8 _ _ ?_
    refine gfrom [(1, .slice _ _ _), (2, .pointer _), (5, .pointer _), (7, .pointer _), (21, .bool _)] ⟨rfl, rfl, rfl, rfl, rfl, trivial⟩ fun σ => ?_
    refine gcond (b := _) rfl (fun hc21 => ?_) (fun hc21 => ?_)
    · 
      replace hc21 := fault_ne.1 hc21
      have hF : applyF (pls hs) text = secondF (linesF text) (-2) := by rw [applyF, if_neg (by simp [hc15]), if_pos hc21]
      refine gseq fun N9 hN9 => ?_
      refine greg_e1 [] [(1, room b5 33 2)] (by kernel_rfl) ?_
      refine ge_take 0 (TK := [box b2 _, room b5 33 2, box b6 _, box b7 _]) rfl (by kernel_rfl) (by kernel_rfl) (by kernel_rfl) #[false, true, false] (by kernel_rfl) rfl (y_loads (cs := [_, _]) Tryz.isAgg33 Tryz.sizeOf33 rfl rfl (cells_box 3 rfl)) rfl rfl rfl (weak_room 1 rfl rfl) (listed' := #[true, false, false]) rfl ?_
      refine ge_take 1 (TK := [box b2 _, room b5 33 2, box b6 _, box b7 _]) rfl (by kernel_rfl) (by kernel_rfl) (by kernel_rfl) #[true, false, false] (by kernel_rfl) rfl (y_assign (v := .slice _ _ _) rfl) rfl rfl rfl (weak_room 1 rfl rfl) (listed' := #[true, true, false]) rfl ?_
      refine ge_one 2 (k' := 0) (listed' := #[true, true, true]) (by kernel_rfl) rfl rfl rfl ?_
      refine gop_store 1 (v := .agg #[_, _]) (cs' := #[_, _]) rfl rfl Tryz.sizeOf33 rfl rfl rfl rfl (Nat.le_of_ble_eq_true rfl) rfl rfl ?_
      refine gops_nil ?_
      refine ge_fin (TK := [box b2 _, room b5 33 2, box b6 _, box b7 _]) rfl (weak_room 1 rfl rfl) ?_
      refine ge_done (by kernel_rfl) ?_
      refine hN9 _ _ ?_
      refine gT [box b2 _, box b5 _, box b6 _, box b7 _] rfl ?_
      refine gfrom [(4, .slice _ _ _), (5, .pointer _)] ⟨rfl, rfl, trivial⟩ fun σ => ?_
      refine gret fun w1 hM => ?_
      refine ⟨_, res2 rfl (rt (v := .slice _ _ _) rfl) (rc 1 (cs := [_, _]) hM rfl rfl Tryz.isAgg33 Tryz.sizeOf33 rfl), ?_⟩
      exact ⟨.slice none 0 0, [rowl strCells w.heap.size 9 1 (.slice none 0 0) []], by rw [hF], by rw [applyR, hF, if_neg (by first | assumption | simp)], (mem_nilrow strCells _ 1 hM).dropTo 4 rfl⟩
    · 
      replace hc21 := fault_eq.1 hc21
      have htl := linesF_len (second_lines hc21)
      refine gskip ?_
      refine hN6 _ _ ?_
      refine gfrom [(1, .slice _ _ _), (2, .pointer _), (5, .pointer _)] ⟨rfl, rfl, rfl, trivial⟩ fun σ => ?_
      refine gseq fun N10 hN10 => ?_
      refine gseq fun N11 hN11 => ?_
      refine greg ?_
      refine gop (y_fieldAddr_box fa27_0 rfl) rfl rfl rfl ?_
      refine gop (y_load Tryz.isAgg25 rfl (cell_box 0 rfl rfl)) rfl rfl rfl ?_
      refine gop (y_len Tryz.underlying25 rfl) rfl rfl rfl ?_
      refine gop (y_move (v := .int _ _) rfl) rfl rfl rfl ?_
      refine gops_nil ?_
      refine hN11 _ _ ?_
      refine gfrom [(1, .slice _ _ _), (2, .pointer _), (5, .pointer _), (24, .slice _ _ _), (25, .int _ _), (26, .int _ _)] ⟨rfl, rfl, rfl, rfl, rfl, rfl, trivial⟩ fun σ => ?_
      refine gblock ?_
      refine gfrom2 [(26, .int _ _)] [(1, .slice _ _ _), (2, .pointer _), (5, .pointer _), (24, .slice _ _ _), (25, .int _ _)] ⟨rfl, trivial⟩ ⟨rfl, rfl, rfl, rfl, rfl, trivial⟩ fun σ => ?_
      refine gloop2 (G := Nat) (fun k => k ≤ hs.length ∧ ∀ j (h : j < (pls hs).length), j < k → (if occ text (pls hs)[j].old (pls hs)[j].at_ = true then (0 : Int) else 19) = 0) (fun k => hs.length - k) (fun k => [(26, .int .i64 (k : Int))]) (fun k => []) (0) ?h0 ⟨rfl, trivial⟩ ⟨rfl, rfl, rfl, rfl, rfl, trivial⟩ rfl ?round
      case h0 => exact ⟨Nat.zero_le _, fun _ _ h => absurd h (by omega)⟩
      case round =>
        intro k hφ σ
        obtain ⟨hk, hz⟩ := hφ
        refine gseq fun N12 hN12 => ?_
        refine greg ?_
        refine gop (y_lss rfl rfl) rfl rfl rfl ?_
        refine gops_nil ?_
        refine hN12 _ _ ?_
        refine gfrom [(1, .slice _ _ _), (2, .pointer _), (5, .pointer _), (24, .slice _ _ _), (25, .int _ _), (26, .int _ _), (27, .bool _)] ⟨rfl, rfl, rfl, rfl, rfl, rfl, rfl, trivial⟩ fun σ => ?_
        refine gseq fun N13 hN13 => ?_
        refine gcond (b := _) rfl (fun hc27 => ?_) (fun hc27 => ?_)
        · 
          replace hc27 := of_decide_eq_true hc27
          have hk1 : k < hs.length := by omega
          have hk2 : k < (pls hs).length := by simpa using hk1
          obtain ⟨ad, rfl, -, hcv⟩ := hp.rd.at_ hk1
          have hR := hp.each _ (List.getElem_mem hk1)
          refine gskip ?_
          refine hN13 _ _ ?_
          refine gfrom [(1, .slice _ _ _), (2, .pointer _), (5, .pointer _), (24, .slice _ _ _), (25, .int _ _), (26, .int _ _)] ⟨rfl, rfl, rfl, rfl, rfl, rfl, trivial⟩ fun σ => ?_
          refine gseq fun N14 hN14 => ?_
          refine gblock ?_
          refine gseq fun N15 hN15 => ?_
          refine greg ?_
          refine gop (y_move (v := .int _ _) rfl) rfl rfl rfl ?_
          refine gop (y_indexAddr Tryz.underlying25 Tryz.sizeOf92 rfl rfl rfl (by omega) (by omega)) rfl rfl rfl ?_
          refine gop (y_loads (cs := [_, _, _]) Tryz.isAgg92 Tryz.sizeOf92 rfl rfl (cells_base hcv)) rfl rfl rfl ?_
          refine gop_alloc (cs := #[.int .i64 0, .slice none 0 0, .slice none 0 0]) Tryz.zeroValue92 rfl rfl (fun b9 hb9 => ?_)
          refine gop (y_assign (v := .int _ _) rfl) rfl rfl rfl ?_
          refine gop_store 4 (v := .agg #[_, _, _]) (cs' := #[_, _, _]) rfl rfl Tryz.sizeOf92 rfl rfl rfl rfl (Nat.le_of_ble_eq_true rfl) rfl rfl ?_
          refine gops_nil ?_
          refine hN15 _ _ ?_
          refine gT [box b2 _, box b5 _, box b6 _, box b7 _, box b9 _] rfl ?_
          refine gfrom [(1, .slice _ _ _), (2, .pointer _), (5, .pointer _), (8, .int _ _), (9, .pointer _), (24, .slice _ _ _), (25, .int _ _), (26, .int _ _)] ⟨rfl, rfl, rfl, rfl, rfl, rfl, rfl, rfl, trivial⟩ fun σ => ?_
          refine gseq fun N16 hN16 => ?_
          refine greg ?_
          refine gop (y_move (v := .slice _ _ _) rfl) rfl rfl rfl ?_
          refine gop (y_fieldAddr_box fa92_1 rfl) rfl rfl rfl ?_
          refine gop (y_load Tryz.isAgg22 rfl (cell_box 4 rfl rfl)) rfl rfl rfl ?_
          refine gop (y_fieldAddr_box fa92_0 rfl) rfl rfl rfl ?_
          refine gop (y_load Tryz.isAgg3 rfl (cell_box 4 rfl rfl)) rfl rfl rfl ?_
          refine gop_pure (e_call (vs := [.slice _ _ _, .slice _ _ _, .int _ _]) Tryz.func114 rfl (by kernel_rfl) rfl) (fun w hM => occurs_any w _ _ text (ht.base hM) htb.len htb.max _ _ _ (hR.old.base hM) (Nat.le_trans hR.ob.len hR.ob.max) _) rfl rfl rfl ?_
          refine gop (y_not rfl) rfl rfl rfl ?_
          refine gops_nil ?_
          refine hN16 _ _ ?_
          refine gfrom [(1, .slice _ _ _), (2, .pointer _), (5, .pointer _), (8, .int _ _), (24, .slice _ _ _), (25, .int _ _), (26, .int _ _), (37, .bool _)] ⟨rfl, rfl, rfl, rfl, rfl, rfl, rfl, rfl, trivial⟩ fun σ => ?_
          refine gcond (b := _) rfl (fun hc37 => ?_) (fun hc37 => ?_)
          · 
            replace hc37 := not_t hc37
            have hS : scan (fun _ h => if occ text h.old h.at_ = true then 0 else 19) (pls hs) = ⟨19, k⟩ := by rw [scan_at hk2 hz (by rw [List.getElem_map, if_neg (by simp [hc37])]; decide), List.getElem_map, if_neg (by simp [hc37])]
            have hF : applyF (pls hs) text = ⟨19, k⟩ := by rw [applyF, if_neg (by simp [hc15]), if_neg (by simp [hc21]), if_pos (by rw [hS]; simp), hS]
            refine gseq fun N17 hN17 => ?_
            refine greg ?_
            refine gop (y_move (v := .int _ _) rfl) rfl rfl rfl ?_
            refine gop (y_build (vs := [(0, _), (1, .int _ _)]) (cells := #[_, _]) rfl (bd33_0_1 _ _)) rfl rfl rfl ?_
            refine gop (y_assign (v := .slice _ _ _) rfl) rfl rfl rfl ?_
            refine gop_store 1 (v := .agg #[_, _]) (cs' := #[_, _]) rfl rfl Tryz.sizeOf33 rfl rfl rfl rfl (Nat.le_of_ble_eq_true rfl) rfl rfl ?_
            refine gops_nil ?_
            refine hN17 _ _ ?_
            refine gT [box b2 _, box b5 _, box b6 _, box b7 _, box b9 _] rfl ?_
            refine gfrom [(4, .slice _ _ _), (5, .pointer _)] ⟨rfl, rfl, trivial⟩ fun σ => ?_
            refine gret fun w1 hM => ?_
            refine ⟨_, res2 rfl (rt (v := .slice _ _ _) rfl) (rc 1 (cs := [_, _]) hM rfl rfl Tryz.isAgg33 Tryz.sizeOf33 rfl), ?_⟩
            exact ⟨.slice none 0 0, [rowl strCells w.heap.size 9 1 (.slice none 0 0) []], by rw [hF], by rw [applyR, hF, if_neg (by first | assumption | simp)], (mem_nilrow strCells _ 1 hM).dropTo 5 rfl⟩
          · 
            replace hc37 := not_f hc37
            refine gskip ?_
            refine hN14 _ _ ?_
            refine gfrom [(1, .slice _ _ _), (2, .pointer _), (5, .pointer _), (24, .slice _ _ _), (25, .int _ _), (26, .int _ _)] ⟨rfl, rfl, rfl, rfl, rfl, rfl, trivial⟩ fun σ => ?_
            refine greg ?_
            refine gop (y_add rfl rfl ⟨by omega, by omega⟩) rfl rfl rfl ?_
            refine gop (y_move (v := .int _ _) rfl) rfl rfl rfl ?_
            refine gops_nil ?_
            refine gnext2 (k + 1) (by omega) (⟨by omega, fun j h hj => by rcases Nat.lt_succ_iff_lt_or_eq.1 hj with h1 | rfl; exact hz j h h1; rw [List.getElem_map, if_pos hc37]⟩) ⟨rfl, trivial⟩ ⟨rfl, rfl, rfl, rfl, rfl, trivial⟩ ⟨_, rfl⟩
        · 
          replace hc27 := of_decide_eq_false hc27
          have hS : scan (fun _ h => if occ text h.old h.at_ = true then 0 else 19) (pls hs) = ⟨0, 0⟩ := scan_ok fun j hj => hz j hj (by simp at hj; omega)
          have hends : ∀ h ∈ pls hs, h.end_ ≤ text.length := fun h hh => by
            obtain ⟨j, hj, rfl⟩ := List.getElem_of_mem hh
            have h1 := hz j hj (by simp at hj; omega)
            by_cases h2 : occ text (pls hs)[j].old (pls hs)[j].at_ = true
            · exact (occ_end h2).2
            · rw [if_neg h2] at h1; cases h1
          have hF0 : applyF (pls hs) text = if 120 < (rawFrom 0 (pls hs) text).length then ⟨10, -1⟩ else ⟨0, 0⟩ := by rw [applyF, if_neg (by simp [hc15]), if_neg (by simp [hc21]), if_neg (by rw [hS]; simp)]
          refine gexit ?_
          refine hN10 _ _ ?_
          refine gfrom [(1, .slice _ _ _), (2, .pointer _), (5, .pointer _)] ⟨rfl, rfl, rfl, trivial⟩ fun σ => ?_
          refine gseq fun N18 hN18 => ?_
          refine greg ?_
          refine gop (y_fieldAddr_box fa27_0 rfl) rfl rfl rfl ?_
          refine gop (y_load Tryz.isAgg25 rfl (cell_box 0 rfl rfl)) rfl rfl rfl ?_
          refine gop (y_move (v := .slice _ _ _) rfl) rfl rfl rfl ?_
          refine gop (y_move (v := .slice _ _ _) rfl) rfl rfl rfl ?_
          refine gop (y_len Tryz.underlying22 rfl) rfl rfl rfl ?_
          refine gop_got (fun v T' => ∃ lo, w.heap.size ≤ lo ∧ T' = [rowl strCells lo 9 1 v (rawFrom 0 (pls hs) text)]) (e_call (vs := [.slice _ _ _, .slice _ _ _, _, .int _ _]) Tryz.func115 rfl (by kernel_rfl) rfl) (fun w hM => (raw_any w _ _ hs (PatR.lasts.base hp hM) _ _ text (ht.base hM) htb hv htl hends).mono fun _ _ ⟨v, T1, h1, h2, h3⟩ => ⟨v, T1, h1, ⟨_, hM.low.size, h2⟩, h3⟩) rfl rfl rfl ?_
          rintro v46 _ ⟨lo46, hlo46, rfl⟩
          refine gops_fact (fun w hM => row_form (hM.ok _ (List.mem_of_getElem? (i := 4) rfl))) ?_
          rintro ⟨A46, c46, rfl, hc46, hm46, hn46⟩
          refine gop (y_assign (v := .slice A46 _ c46) rfl) rfl rfl rfl ?_
          refine gops_nil ?_
          refine hN18 _ _ ?_
          refine gT [box b2 _, box b5 _, box b6 _, box b7 _, rowl _ _ _ _ _ _] rfl ?_
          refine gfrom [(5, .pointer _), (10, .slice A46 _ c46)] ⟨rfl, rfl, trivial⟩ fun σ => ?_
          refine gseq fun N19 hN19 => ?_
          refine gseq fun N20 hN20 => ?_
          refine greg ?_
          refine gop (y_move (v := .slice A46 _ c46) rfl) rfl rfl rfl ?_
          refine gop (y_len Tryz.underlying22 rfl) rfl rfl rfl ?_
          refine gop (y_gtr rfl rfl) rfl rfl rfl ?_
          refine gops_nil ?_
          refine hN20 _ _ ?_
          refine gfrom [(5, .pointer _), (10, .slice A46 _ c46), (49, .bool _)] ⟨rfl, rfl, rfl, trivial⟩ fun σ => ?_
          refine gcond (b := _) rfl (fun hc49 => ?_) (fun hc49 => ?_)
          · 
            replace hc49 := of_decide_eq_true hc49
            have hF : applyF (pls hs) text = ⟨10, -1⟩ := by rw [hF0, if_pos (by omega)]
            refine gseq fun N21 hN21 => ?_
            refine greg ?_
            refine gop (y_build (vs := [(0, _), (1, _)]) (cells := #[_, _]) rfl (bd33_0_1 _ _)) rfl rfl rfl ?_
            refine gop (y_assign (v := .slice _ _ _) rfl) rfl rfl rfl ?_
            refine gop_store 1 (v := .agg #[_, _]) (cs' := #[_, _]) rfl rfl Tryz.sizeOf33 rfl rfl rfl rfl (Nat.le_of_ble_eq_true rfl) rfl rfl ?_
            refine gops_nil ?_
            refine hN21 _ _ ?_
            refine gT [box b2 _, box b5 _, box b6 _, box b7 _, rowl _ _ _ _ _ _] rfl ?_
            refine gfrom [(4, .slice _ _ _), (5, .pointer _)] ⟨rfl, rfl, trivial⟩ fun σ => ?_
            refine gret fun w1 hM => ?_
            refine ⟨_, res2 rfl (rt (v := .slice _ _ _) rfl) (rc 1 (cs := [_, _]) hM rfl rfl Tryz.isAgg33 Tryz.sizeOf33 rfl), ?_⟩
            exact ⟨.slice none 0 0, [rowl strCells w.heap.size 9 1 (.slice none 0 0) []], by rw [hF], by rw [applyR, hF, if_neg (by first | assumption | simp)], (mem_nilrow strCells _ 1 hM).dropTo 5 rfl⟩
          · 
            replace hc49 := of_decide_eq_false hc49
            have hF : applyF (pls hs) text = ⟨0, 0⟩ := by rw [hF0, if_neg (by omega)]
            refine gskip ?_
            refine hN19 _ _ ?_
            refine gfrom [(5, .pointer _), (10, .slice A46 _ c46)] ⟨rfl, rfl, trivial⟩ fun σ => ?_
            refine gseq fun N22 hN22 => ?_
            refine greg ?_
            refine gop (y_move (v := .slice A46 _ c46) rfl) rfl rfl rfl ?_
            refine gop (y_build (vs := []) (cells := #[.int .i64 0, .int .i64 0]) rfl bd33_) rfl rfl rfl ?_
            refine gop (y_assign (v := .slice A46 _ c46) rfl) rfl rfl rfl ?_
            refine gop_store 1 (v := .agg #[_, _]) (cs' := #[_, _]) rfl rfl Tryz.sizeOf33 rfl rfl rfl rfl (Nat.le_of_ble_eq_true rfl) rfl rfl ?_
            refine gops_nil ?_
            refine hN22 _ _ ?_
            refine gT [box b2 _, box b5 _, box b6 _, box b7 _, rowl _ _ _ _ _ _] rfl ?_
            refine gfrom [(4, .slice A46 _ c46), (5, .pointer _)] ⟨rfl, rfl, trivial⟩ fun σ => ?_
            refine gret fun w1 hM => ?_
            refine ⟨_, res2 rfl (rt (v := .slice A46 _ c46) rfl) (rc 1 (cs := [_, _]) hM rfl rfl Tryz.isAgg33 Tryz.sizeOf33 rfl), ?_⟩
            exact ⟨_, [rowl strCells w.heap.size 9 1 _ (rawFrom 0 (pls hs) text)], by rw [hF], by rw [applyR, if_pos hF], (weak_lower 4 rfl hlo46 _ hM).dropTo 4 rfl⟩
end Go.Proofs.YtbkameioedmlkaaGreatDoor
namespace Go.Proofs.YtbkameioedmlkaaGreatDoor
open Go.RowKit Go.Cf
set_option maxRecDepth 10000
theorem fa29_0 (a : Addr) (w : World) : (Instr.fieldAt 29 (.pointer (some a)) 0).run Tryz.prog w = .ok (.pointer (some (a.add 0))) w := by kernel_rfl
theorem fa29_2 (a : Addr) (w : World) : (Instr.fieldAt 29 (.pointer (some a)) 2).run Tryz.prog w = .ok (.pointer (some (a.add 2))) w := by kernel_rfl
theorem fa29_3 (a : Addr) (w : World) : (Instr.fieldAt 29 (.pointer (some a)) 3).run Tryz.prog w = .ok (.pointer (some (a.add 3))) w := by kernel_rfl
theorem fa29_4 (a : Addr) (w : World) : (Instr.fieldAt 29 (.pointer (some a)) 4).run Tryz.prog w = .ok (.pointer (some (a.add 4))) w := by kernel_rfl
theorem fa29_5 (a : Addr) (w : World) : (Instr.fieldAt 29 (.pointer (some a)) 5).run Tryz.prog w = .ok (.pointer (some (a.add 5))) w := by kernel_rfl
theorem fa29_1 (a : Addr) (w : World) : (Instr.fieldAt 29 (.pointer (some a)) 1).run Tryz.prog w = .ok (.pointer (some (a.add 1))) w := by kernel_rfl
theorem fd33_0 (x0 x1 : Value) (w : World) : (Instr.field 33 (.agg #[x0, x1]) 0).run Tryz.prog w = .ok x0 w := by kernel_rfl
theorem fa98_1 (a : Addr) (w : World) : (Instr.fieldAt 98 (.pointer (some a)) 1).run Tryz.prog w = .ok (.pointer (some (a.add 1))) w := by kernel_rfl
set_option maxHeartbeats 4000000 in
theorem form_any (w : World) (x : EvC) : Calls Tryz.prog 59 #[evV x] w fun e w' => e = .returned (.int .i64 (formC x.pl)) ∧ Below w.heap.size w w' := by
  refine gcalls Tryz.func59 rfl Tryz.ntmps59 (Nat.le_of_ble_eq_true rfl) ?_
  refine gfrom [(0, .agg #[_, _, _, _, _, _])] ⟨rfl, trivial⟩ fun σ => ?_
  refine gseq fun N1 hN1 => ?_
  refine greg ?_
  refine gop_box (v := .agg #[_, _, _, _, _, _]) (cs := #[_, _, _, _, _, _]) rfl rfl rfl (fun b1 hb1 => ?_)
  refine gop (y_assign (v := .int _ _) rfl) rfl rfl rfl ?_
  refine gops_nil ?_
  refine hN1 _ _ ?_
  refine gT [box b1 _] rfl ?_
  refine gfrom [(1, .pointer _)] ⟨rfl, trivial⟩ fun σ => ?_
  refine gseq fun N2 hN2 => ?_
  refine gseq fun N3 hN3 => ?_
  refine greg ?_
  refine gop (y_fieldAddr_box fa29_0 rfl) rfl rfl rfl ?_
  refine gop (y_load Tryz.isAgg3 rfl (cell_box 0 rfl rfl)) rfl rfl rfl ?_
  refine gop (y_lss rfl rfl) rfl rfl rfl ?_
  refine gop (y_move (v := .bool _) rfl) rfl rfl rfl ?_
  refine gop_if (want := false) rfl rfl rfl rfl rfl rfl (fun hg10 => ?_) (fun hg10 => ?_)
  · 
    have hg10d := of_decide_eq_false hg10
    refine gop (y_bare (y_fieldAddr_box fa29_0 rfl)) rfl rfl rfl ?_
    refine gop_on rfl rfl rfl rfl hg10 ?_
    refine gop (y_bare (y_load Tryz.isAgg3 rfl (cell_box 0 rfl rfl))) rfl rfl rfl ?_
    refine gop_on rfl rfl rfl rfl hg10 ?_
    refine gop (y_bare (y_gtr rfl rfl)) rfl rfl rfl ?_
    refine gop (y_pick_f (v := .bool _) rfl hg10 rfl) rfl rfl rfl ?_
    refine gops_nil ?_
    refine hN3 _ _ ?_
    refine gfrom [(1, .pointer _), (14, .bool _)] ⟨rfl, rfl, trivial⟩ fun σ => ?_
    refine gcond (b := _) rfl (fun hc14 => ?_) (fun hc14 => ?_)
    · 
      replace hc14 := of_decide_eq_true hc14
      refine gseq fun N4 hN4 => ?_
      refine greg ?_
      refine gop (y_assign (v := .int _ _) rfl) rfl rfl rfl ?_
      refine gops_nil ?_
      refine hN4 _ _ ?_
      refine gfrom [(2, .int _ _)] ⟨rfl, trivial⟩ fun σ => ?_
      refine gret fun w1 hM => ?_
      refine ⟨_, res1 rfl (rt (v := .int _ _) rfl), ?_⟩
      exact ⟨by rw [formC, if_pos (show x.kind < 1 ∨ 4 < x.kind by omega)], hM.low⟩
    · 
      replace hc14 := of_decide_eq_false hc14
      have hK : ¬ (x.kind < 1 ∨ 4 < x.kind) := by omega
      refine gskip ?_
      refine hN2 _ _ ?_
      refine gfrom [(1, .pointer _)] ⟨rfl, trivial⟩ fun σ => ?_
      refine gseq fun N5 hN5 => ?_
      refine greg_q (by kernel_rfl) (by kernel_rfl) ?_
      refine gq (y_fieldAddr_box fa29_0 rfl) rfl rfl rfl ?_
      refine gq (y_load Tryz.isAgg3 rfl (cell_box 0 rfl rfl)) rfl rfl rfl ?_
      refine gq (y_eql rfl rfl) rfl rfl rfl ?_
      refine gq (y_fieldAddr_box fa29_0 rfl) rfl rfl rfl ?_
      refine gq (y_load Tryz.isAgg3 rfl (cell_box 0 rfl rfl)) rfl rfl rfl ?_
      refine gq (y_eql rfl rfl) rfl rfl rfl ?_
      refine gq (y_fieldAddr_box fa29_0 rfl) rfl rfl rfl ?_
      refine gq (y_load Tryz.isAgg3 rfl (cell_box 0 rfl rfl)) rfl rfl rfl ?_
      refine gq (y_eql rfl rfl) rfl rfl rfl ?_
      refine gq (y_fieldAddr_box fa29_0 rfl) rfl rfl rfl ?_
      refine gq (y_load Tryz.isAgg3 rfl (cell_box 0 rfl rfl)) rfl rfl rfl ?_
      refine gq (y_eql rfl rfl) rfl rfl rfl ?_
      refine gq (y_assign (v := .bool _) rfl) rfl rfl rfl ?_
      refine gq (y_assign (v := .bool _) rfl) rfl rfl rfl ?_
      refine gq (y_assign (v := .bool _) rfl) rfl rfl rfl ?_
      refine gq (y_assign (v := .bool _) rfl) rfl rfl rfl ?_
      refine gqs_nil ?_
      refine hN5 _ _ ?_
      refine gfrom [(1, .pointer _), (3, .bool _), (4, .bool _), (5, .bool _), (6, .bool _)] ⟨rfl, rfl, rfl, rfl, rfl, trivial⟩ fun σ => ?_
      refine gseq fun N6 hN6 => ?_
      refine gblock ?_
      refine gseq fun N7 hN7 => ?_
      refine gfrom [(1, .pointer _), (3, .bool _), (4, .bool _), (5, .bool _), (6, .bool _)] ⟨rfl, rfl, rfl, rfl, rfl, trivial⟩ fun σ => ?_
      refine gcut3 (Lf := [(1, .pointer _), (3, .bool _), (4, .bool _)]) (G := Unit) (fun g => True) (fun g => [(27, .bool (badE x.pl))]) (fun g => []) ⟨rfl, rfl, rfl, trivial⟩ ?_ ?_
      ·
        refine gseq fun N8 hN8 => ?_
        refine greg ?_
        refine gop (y_fieldAddr_box fa29_2 rfl) rfl rfl rfl ?_
        refine gop (y_load Tryz.isAgg3 rfl (cell_box 0 rfl rfl)) rfl rfl rfl ?_
        refine gop (y_neq rfl rfl) rfl rfl rfl ?_
        refine gop (y_move (v := .bool _) rfl) rfl rfl rfl ?_
        refine gop_if (want := true) rfl rfl rfl rfl rfl rfl (fun hg31 => ?_) (fun hg31 => ?_)
        · 
          have hg31d := of_decide_eq_true hg31
          refine gop (y_bare (y_move (v := .bool _) rfl)) rfl rfl rfl ?_
          refine gop_on rfl rfl rfl rfl hg31 ?_
          refine gop (y_bare (y_not rfl)) rfl rfl rfl ?_
          refine gop (y_pick_t (v := .bool _) rfl hg31 rfl) rfl rfl rfl ?_
          refine gop (y_move (v := .bool _) rfl) rfl rfl rfl ?_
          refine gop_if (want := true) rfl rfl rfl rfl rfl rfl (fun hg35 => ?_) (fun hg35 => ?_)
          · 
            have hg35d := not_t hg35
            refine gop (y_bare (y_move (v := .bool _) rfl)) rfl rfl rfl ?_
            refine gop_on rfl rfl rfl rfl hg35 ?_
            refine gop (y_bare (y_not rfl)) rfl rfl rfl ?_
            refine gop (y_pick_t (v := .bool _) rfl hg35 rfl) rfl rfl rfl ?_
            refine gop (y_assign (v := .bool _) rfl) rfl rfl rfl ?_
            refine gops_nil ?_
            refine hN8 _ _ ?_
            refine gfrom [(1, .pointer _), (3, .bool _), (4, .bool _), (6, .bool _), (27, .bool _)] ⟨rfl, rfl, rfl, rfl, rfl, trivial⟩ fun σ => ?_
            refine gcond (b := _) rfl (fun hc27 => ?_) (fun hc27 => ?_)
            · 
              have hb := hc27
              refine gskip ?_
              refine gcut3_end (()) (trivial) ⟨(congrArg Value.bool (by first | (simp_all [badE, isEmptyS]; done) | (simp_all [badE, isEmptyS]; omega))), trivial⟩ ⟨rfl, rfl, rfl, trivial⟩ ⟨_, rfl⟩
            · 
              have hb : ¬ _ := Bool.eq_false_iff.1 hc27
              refine gseq fun N9 hN9 => ?_
              refine greg ?_
              refine gop (y_fieldAddr_box fa29_3 rfl) rfl rfl rfl ?_
              refine gop (y_load Tryz.isAgg3 rfl (cell_box 0 rfl rfl)) rfl rfl rfl ?_
              refine gop (y_neq rfl rfl) rfl rfl rfl ?_
              refine gop (y_move (v := .bool _) rfl) rfl rfl rfl ?_
              refine gop_if (want := true) rfl rfl rfl rfl rfl rfl (fun hg42 => ?_) (fun hg42 => ?_)
              · 
                have hg42d := of_decide_eq_true hg42
                refine gop (y_bare (y_move (v := .bool _) rfl)) rfl rfl rfl ?_
                refine gop_on rfl rfl rfl rfl hg42 ?_
                refine gop (y_bare (y_not rfl)) rfl rfl rfl ?_
                refine gop (y_pick_t (v := .bool _) rfl hg42 rfl) rfl rfl rfl ?_
                refine gop (y_assign (v := .bool _) rfl) rfl rfl rfl ?_
                refine gops_nil ?_
                refine hN9 _ _ ?_
                refine gfrom [(1, .pointer _), (3, .bool _), (4, .bool _), (6, .bool _), (27, .bool _)] ⟨rfl, rfl, rfl, rfl, rfl, trivial⟩ fun σ => ?_
                refine gcond (b := _) rfl (fun hc27 => ?_) (fun hc27 => ?_)
                · 
                  have hb := hc27
                  refine gskip ?_
                  refine gcut3_end (()) (trivial) ⟨(congrArg Value.bool (by first | (simp_all [badE, isEmptyS]; done) | (simp_all [badE, isEmptyS]; omega))), trivial⟩ ⟨rfl, rfl, rfl, trivial⟩ ⟨_, rfl⟩
                · 
                  have hb : ¬ _ := Bool.eq_false_iff.1 hc27
                  refine gseq fun N10 hN10 => ?_
                  refine greg ?_
                  refine gop (y_fieldAddr_box fa29_4 rfl) rfl rfl rfl ?_
                  refine gop (y_load Tryz.isAgg9 rfl (cell_box 0 rfl rfl)) rfl rfl rfl ?_
                  refine gop (y_neqs rfl rfl) rfl rfl rfl ?_
                  refine gop (y_move (v := .bool _) rfl) rfl rfl rfl ?_
                  refine gop_if (want := true) rfl rfl rfl rfl rfl rfl (fun hg49 => ?_) (fun hg49 => ?_)
                  · 
                    have hg49d := hg49
                    refine gop (y_bare (y_move (v := .bool _) rfl)) rfl rfl rfl ?_
                    refine gop_on rfl rfl rfl rfl hg49 ?_
                    refine gop (y_bare (y_not rfl)) rfl rfl rfl ?_
                    refine gop (y_pick_t (v := .bool _) rfl hg49 rfl) rfl rfl rfl ?_
                    refine gop (y_move (v := .bool _) rfl) rfl rfl rfl ?_
                    refine gop_if (want := true) rfl rfl rfl rfl rfl rfl (fun hg53 => ?_) (fun hg53 => ?_)
                    · 
                      have hg53d := not_t hg53
                      refine gop (y_bare (y_move (v := .bool _) rfl)) rfl rfl rfl ?_
                      refine gop_on rfl rfl rfl rfl hg53 ?_
                      refine gop (y_bare (y_not rfl)) rfl rfl rfl ?_
                      refine gop (y_pick_t (v := .bool _) rfl hg53 rfl) rfl rfl rfl ?_
                      refine gop (y_assign (v := .bool _) rfl) rfl rfl rfl ?_
                      refine gops_nil ?_
                      refine hN10 _ _ ?_
                      refine gfrom [(1, .pointer _), (3, .bool _), (4, .bool _), (6, .bool _), (27, .bool _)] ⟨rfl, rfl, rfl, rfl, rfl, trivial⟩ fun σ => ?_
                      refine gcond (b := _) rfl (fun hc27 => ?_) (fun hc27 => ?_)
                      · 
                        have hb := hc27
                        refine gskip ?_
                        refine gcut3_end (()) (trivial) ⟨(congrArg Value.bool (by first | (simp_all [badE, isEmptyS]; done) | (simp_all [badE, isEmptyS]; omega))), trivial⟩ ⟨rfl, rfl, rfl, trivial⟩ ⟨_, rfl⟩
                      · 
                        have hb : ¬ _ := Bool.eq_false_iff.1 hc27
                        refine greg ?_
                        refine gop (y_fieldAddr_box fa29_5 rfl) rfl rfl rfl ?_
                        refine gop (y_fieldAddr_box fa27_0 rfl) rfl rfl rfl ?_
                        refine gop (y_load Tryz.isAgg25 rfl (cell_box 0 rfl rfl)) rfl rfl rfl ?_
                        refine gop (y_len Tryz.underlying25 rfl) rfl rfl rfl ?_
                        refine gop (y_gtr rfl rfl) rfl rfl rfl ?_
                        refine gop (y_move (v := .bool _) rfl) rfl rfl rfl ?_
                        refine gop_if (want := true) rfl rfl rfl rfl rfl rfl (fun hg62 => ?_) (fun hg62 => ?_)
                        · 
                          have hg62d := of_decide_eq_true hg62
                          refine gop (y_bare (y_move (v := .bool _) rfl)) rfl rfl rfl ?_
                          refine gop_on rfl rfl rfl rfl hg62 ?_
                          refine gop (y_bare (y_not rfl)) rfl rfl rfl ?_
                          refine gop (y_pick_t (v := .bool _) rfl hg62 rfl) rfl rfl rfl ?_
                          refine gop (y_assign (v := .bool _) rfl) rfl rfl rfl ?_
                          refine gops_nil ?_
                          refine gcut3_end (()) (trivial) ⟨(congrArg Value.bool (by first | (simp_all [badE, isEmptyS]; done) | (simp_all [badE, isEmptyS]; omega))), trivial⟩ ⟨rfl, rfl, rfl, trivial⟩ ⟨_, rfl⟩
                        · 
                          have hg62d := of_decide_eq_false hg62
                          refine gop_off rfl rfl rfl rfl hg62 rfl rfl ?_
                          refine gop (y_pick_f (v := .bool _) rfl hg62 rfl) rfl rfl rfl ?_
                          refine gop (y_assign (v := .bool _) rfl) rfl rfl rfl ?_
                          refine gops_nil ?_
                          refine gcut3_end (()) (trivial) ⟨(congrArg Value.bool (by first | (simp_all [badE, isEmptyS]; done) | (simp_all [badE, isEmptyS]; omega))), trivial⟩ ⟨rfl, rfl, rfl, trivial⟩ ⟨_, rfl⟩
                    · 
                      have hg53d := not_f hg53
                      refine gop_off rfl rfl rfl rfl hg53 rfl rfl ?_
                      refine gop (y_pick_f (v := .bool _) rfl hg53 rfl) rfl rfl rfl ?_
                      refine gop (y_assign (v := .bool _) rfl) rfl rfl rfl ?_
                      refine gops_nil ?_
                      refine hN10 _ _ ?_
                      refine gfrom [(1, .pointer _), (3, .bool _), (4, .bool _), (6, .bool _), (27, .bool _)] ⟨rfl, rfl, rfl, rfl, rfl, trivial⟩ fun σ => ?_
                      refine gcond (b := _) rfl (fun hc27 => ?_) (fun hc27 => ?_)
                      · 
                        have hb := hc27
                        refine gskip ?_
                        refine gcut3_end (()) (trivial) ⟨(congrArg Value.bool (by first | (simp_all [badE, isEmptyS]; done) | (simp_all [badE, isEmptyS]; omega))), trivial⟩ ⟨rfl, rfl, rfl, trivial⟩ ⟨_, rfl⟩
                      · 
                        have hb : ¬ _ := Bool.eq_false_iff.1 hc27
                        refine greg ?_
                        refine gop (y_fieldAddr_box fa29_5 rfl) rfl rfl rfl ?_
                        refine gop (y_fieldAddr_box fa27_0 rfl) rfl rfl rfl ?_
                        refine gop (y_load Tryz.isAgg25 rfl (cell_box 0 rfl rfl)) rfl rfl rfl ?_
                        refine gop (y_len Tryz.underlying25 rfl) rfl rfl rfl ?_
                        refine gop (y_gtr rfl rfl) rfl rfl rfl ?_
                        refine gop (y_move (v := .bool _) rfl) rfl rfl rfl ?_
                        refine gop_if (want := true) rfl rfl rfl rfl rfl rfl (fun hg62 => ?_) (fun hg62 => ?_)
                        · 
                          have hg62d := of_decide_eq_true hg62
                          refine gop (y_bare (y_move (v := .bool _) rfl)) rfl rfl rfl ?_
                          refine gop_on rfl rfl rfl rfl hg62 ?_
                          refine gop (y_bare (y_not rfl)) rfl rfl rfl ?_
                          refine gop (y_pick_t (v := .bool _) rfl hg62 rfl) rfl rfl rfl ?_
                          refine gop (y_assign (v := .bool _) rfl) rfl rfl rfl ?_
                          refine gops_nil ?_
                          refine gcut3_end (()) (trivial) ⟨(congrArg Value.bool (by first | (simp_all [badE, isEmptyS]; done) | (simp_all [badE, isEmptyS]; omega))), trivial⟩ ⟨rfl, rfl, rfl, trivial⟩ ⟨_, rfl⟩
                        · 
                          have hg62d := of_decide_eq_false hg62
                          refine gop_off rfl rfl rfl rfl hg62 rfl rfl ?_
                          refine gop (y_pick_f (v := .bool _) rfl hg62 rfl) rfl rfl rfl ?_
                          refine gop (y_assign (v := .bool _) rfl) rfl rfl rfl ?_
                          refine gops_nil ?_
                          refine gcut3_end (()) (trivial) ⟨(congrArg Value.bool (by first | (simp_all [badE, isEmptyS]; done) | (simp_all [badE, isEmptyS]; omega))), trivial⟩ ⟨rfl, rfl, rfl, trivial⟩ ⟨_, rfl⟩
                  · 
                    have hg49d := hg49
                    refine gop_off rfl rfl rfl rfl hg49 rfl rfl ?_
                    refine gop (y_pick_f (v := .bool _) rfl hg49 rfl) rfl rfl rfl ?_
                    refine gop (y_move (v := .bool _) rfl) rfl rfl rfl ?_
                    refine gop_off rfl rfl rfl rfl rfl rfl rfl ?_
                    refine gop_off rfl rfl rfl rfl rfl rfl rfl ?_
                    refine gop (y_pick_f (v := .bool _) rfl rfl rfl) rfl rfl rfl ?_
                    refine gop (y_assign (v := .bool _) rfl) rfl rfl rfl ?_
                    refine gops_nil ?_
                    refine hN10 _ _ ?_
                    refine gfrom [(1, .pointer _), (3, .bool _), (4, .bool _), (6, .bool _), (27, .bool _)] ⟨rfl, rfl, rfl, rfl, rfl, trivial⟩ fun σ => ?_
                    refine gcond (b := _) rfl (fun hc27 => ?_) (fun hc27 => ?_)
                    · 
                      have hb := hc27
                      refine gskip ?_
                      refine gcut3_end (()) (trivial) ⟨(congrArg Value.bool (by first | (simp_all [badE, isEmptyS]; done) | (simp_all [badE, isEmptyS]; omega))), trivial⟩ ⟨rfl, rfl, rfl, trivial⟩ ⟨_, rfl⟩
                    · 
                      have hb : ¬ _ := Bool.eq_false_iff.1 hc27
                      refine greg ?_
                      refine gop (y_fieldAddr_box fa29_5 rfl) rfl rfl rfl ?_
                      refine gop (y_fieldAddr_box fa27_0 rfl) rfl rfl rfl ?_
                      refine gop (y_load Tryz.isAgg25 rfl (cell_box 0 rfl rfl)) rfl rfl rfl ?_
                      refine gop (y_len Tryz.underlying25 rfl) rfl rfl rfl ?_
                      refine gop (y_gtr rfl rfl) rfl rfl rfl ?_
                      refine gop (y_move (v := .bool _) rfl) rfl rfl rfl ?_
                      refine gop_if (want := true) rfl rfl rfl rfl rfl rfl (fun hg62 => ?_) (fun hg62 => ?_)
                      · 
                        have hg62d := of_decide_eq_true hg62
                        refine gop (y_bare (y_move (v := .bool _) rfl)) rfl rfl rfl ?_
                        refine gop_on rfl rfl rfl rfl hg62 ?_
                        refine gop (y_bare (y_not rfl)) rfl rfl rfl ?_
                        refine gop (y_pick_t (v := .bool _) rfl hg62 rfl) rfl rfl rfl ?_
                        refine gop (y_assign (v := .bool _) rfl) rfl rfl rfl ?_
                        refine gops_nil ?_
                        refine gcut3_end (()) (trivial) ⟨(congrArg Value.bool (by first | (simp_all [badE, isEmptyS]; done) | (simp_all [badE, isEmptyS]; omega))), trivial⟩ ⟨rfl, rfl, rfl, trivial⟩ ⟨_, rfl⟩
                      · 
                        have hg62d := of_decide_eq_false hg62
                        refine gop_off rfl rfl rfl rfl hg62 rfl rfl ?_
                        refine gop (y_pick_f (v := .bool _) rfl hg62 rfl) rfl rfl rfl ?_
                        refine gop (y_assign (v := .bool _) rfl) rfl rfl rfl ?_
                        refine gops_nil ?_
                        refine gcut3_end (()) (trivial) ⟨(congrArg Value.bool (by first | (simp_all [badE, isEmptyS]; done) | (simp_all [badE, isEmptyS]; omega))), trivial⟩ ⟨rfl, rfl, rfl, trivial⟩ ⟨_, rfl⟩
              · 
                have hg42d := Decidable.not_not.1 (of_decide_eq_false hg42)
                refine gop_off rfl rfl rfl rfl hg42 rfl rfl ?_
                refine gop (y_pick_f (v := .bool _) rfl hg42 rfl) rfl rfl rfl ?_
                refine gop (y_assign (v := .bool _) rfl) rfl rfl rfl ?_
                refine gops_nil ?_
                refine hN9 _ _ ?_
                refine gfrom [(1, .pointer _), (3, .bool _), (4, .bool _), (6, .bool _), (27, .bool _)] ⟨rfl, rfl, rfl, rfl, rfl, trivial⟩ fun σ => ?_
                refine gcond (b := _) rfl (fun hc27 => ?_) (fun hc27 => ?_)
                · 
                  have hb := hc27
                  refine gskip ?_
                  refine gcut3_end (()) (trivial) ⟨(congrArg Value.bool (by first | (simp_all [badE, isEmptyS]; done) | (simp_all [badE, isEmptyS]; omega))), trivial⟩ ⟨rfl, rfl, rfl, trivial⟩ ⟨_, rfl⟩
                · 
                  have hb : ¬ _ := Bool.eq_false_iff.1 hc27
                  refine gseq fun N11 hN11 => ?_
                  refine greg ?_
                  refine gop (y_fieldAddr_box fa29_4 rfl) rfl rfl rfl ?_
                  refine gop (y_load Tryz.isAgg9 rfl (cell_box 0 rfl rfl)) rfl rfl rfl ?_
                  refine gop (y_neqs rfl rfl) rfl rfl rfl ?_
                  refine gop (y_move (v := .bool _) rfl) rfl rfl rfl ?_
                  refine gop_if (want := true) rfl rfl rfl rfl rfl rfl (fun hg49 => ?_) (fun hg49 => ?_)
                  · 
                    have hg49d := hg49
                    refine gop (y_bare (y_move (v := .bool _) rfl)) rfl rfl rfl ?_
                    refine gop_on rfl rfl rfl rfl hg49 ?_
                    refine gop (y_bare (y_not rfl)) rfl rfl rfl ?_
                    refine gop (y_pick_t (v := .bool _) rfl hg49 rfl) rfl rfl rfl ?_
                    refine gop (y_move (v := .bool _) rfl) rfl rfl rfl ?_
                    refine gop_if (want := true) rfl rfl rfl rfl rfl rfl (fun hg53 => ?_) (fun hg53 => ?_)
                    · 
                      have hg53d := not_t hg53
                      refine gop (y_bare (y_move (v := .bool _) rfl)) rfl rfl rfl ?_
                      refine gop_on rfl rfl rfl rfl hg53 ?_
                      refine gop (y_bare (y_not rfl)) rfl rfl rfl ?_
                      refine gop (y_pick_t (v := .bool _) rfl hg53 rfl) rfl rfl rfl ?_
                      refine gop (y_assign (v := .bool _) rfl) rfl rfl rfl ?_
                      refine gops_nil ?_
                      refine hN11 _ _ ?_
                      refine gfrom [(1, .pointer _), (3, .bool _), (4, .bool _), (6, .bool _), (27, .bool _)] ⟨rfl, rfl, rfl, rfl, rfl, trivial⟩ fun σ => ?_
                      refine gcond (b := _) rfl (fun hc27 => ?_) (fun hc27 => ?_)
                      · 
                        have hb := hc27
                        refine gskip ?_
                        refine gcut3_end (()) (trivial) ⟨(congrArg Value.bool (by first | (simp_all [badE, isEmptyS]; done) | (simp_all [badE, isEmptyS]; omega))), trivial⟩ ⟨rfl, rfl, rfl, trivial⟩ ⟨_, rfl⟩
                      · 
                        have hb : ¬ _ := Bool.eq_false_iff.1 hc27
                        refine greg ?_
                        refine gop (y_fieldAddr_box fa29_5 rfl) rfl rfl rfl ?_
                        refine gop (y_fieldAddr_box fa27_0 rfl) rfl rfl rfl ?_
                        refine gop (y_load Tryz.isAgg25 rfl (cell_box 0 rfl rfl)) rfl rfl rfl ?_
                        refine gop (y_len Tryz.underlying25 rfl) rfl rfl rfl ?_
                        refine gop (y_gtr rfl rfl) rfl rfl rfl ?_
                        refine gop (y_move (v := .bool _) rfl) rfl rfl rfl ?_
                        refine gop_if (want := true) rfl rfl rfl rfl rfl rfl (fun hg62 => ?_) (fun hg62 => ?_)
                        · 
                          have hg62d := of_decide_eq_true hg62
                          refine gop (y_bare (y_move (v := .bool _) rfl)) rfl rfl rfl ?_
                          refine gop_on rfl rfl rfl rfl hg62 ?_
                          refine gop (y_bare (y_not rfl)) rfl rfl rfl ?_
                          refine gop (y_pick_t (v := .bool _) rfl hg62 rfl) rfl rfl rfl ?_
                          refine gop (y_assign (v := .bool _) rfl) rfl rfl rfl ?_
                          refine gops_nil ?_
                          refine gcut3_end (()) (trivial) ⟨(congrArg Value.bool (by first | (simp_all [badE, isEmptyS]; done) | (simp_all [badE, isEmptyS]; omega))), trivial⟩ ⟨rfl, rfl, rfl, trivial⟩ ⟨_, rfl⟩
                        · 
                          have hg62d := of_decide_eq_false hg62
                          refine gop_off rfl rfl rfl rfl hg62 rfl rfl ?_
                          refine gop (y_pick_f (v := .bool _) rfl hg62 rfl) rfl rfl rfl ?_
                          refine gop (y_assign (v := .bool _) rfl) rfl rfl rfl ?_
                          refine gops_nil ?_
                          refine gcut3_end (()) (trivial) ⟨(congrArg Value.bool (by first | (simp_all [badE, isEmptyS]; done) | (simp_all [badE, isEmptyS]; omega))), trivial⟩ ⟨rfl, rfl, rfl, trivial⟩ ⟨_, rfl⟩
                    · 
                      have hg53d := not_f hg53
                      refine gop_off rfl rfl rfl rfl hg53 rfl rfl ?_
                      refine gop (y_pick_f (v := .bool _) rfl hg53 rfl) rfl rfl rfl ?_
                      refine gop (y_assign (v := .bool _) rfl) rfl rfl rfl ?_
                      refine gops_nil ?_
                      refine hN11 _ _ ?_
                      refine gfrom [(1, .pointer _), (3, .bool _), (4, .bool _), (6, .bool _), (27, .bool _)] ⟨rfl, rfl, rfl, rfl, rfl, trivial⟩ fun σ => ?_
                      refine gcond (b := _) rfl (fun hc27 => ?_) (fun hc27 => ?_)
                      · 
                        have hb := hc27
                        refine gskip ?_
                        refine gcut3_end (()) (trivial) ⟨(congrArg Value.bool (by first | (simp_all [badE, isEmptyS]; done) | (simp_all [badE, isEmptyS]; omega))), trivial⟩ ⟨rfl, rfl, rfl, trivial⟩ ⟨_, rfl⟩
                      · 
                        have hb : ¬ _ := Bool.eq_false_iff.1 hc27
                        refine greg ?_
                        refine gop (y_fieldAddr_box fa29_5 rfl) rfl rfl rfl ?_
                        refine gop (y_fieldAddr_box fa27_0 rfl) rfl rfl rfl ?_
                        refine gop (y_load Tryz.isAgg25 rfl (cell_box 0 rfl rfl)) rfl rfl rfl ?_
                        refine gop (y_len Tryz.underlying25 rfl) rfl rfl rfl ?_
                        refine gop (y_gtr rfl rfl) rfl rfl rfl ?_
                        refine gop (y_move (v := .bool _) rfl) rfl rfl rfl ?_
                        refine gop_if (want := true) rfl rfl rfl rfl rfl rfl (fun hg62 => ?_) (fun hg62 => ?_)
                        · 
                          have hg62d := of_decide_eq_true hg62
                          refine gop (y_bare (y_move (v := .bool _) rfl)) rfl rfl rfl ?_
                          refine gop_on rfl rfl rfl rfl hg62 ?_
                          refine gop (y_bare (y_not rfl)) rfl rfl rfl ?_
                          refine gop (y_pick_t (v := .bool _) rfl hg62 rfl) rfl rfl rfl ?_
                          refine gop (y_assign (v := .bool _) rfl) rfl rfl rfl ?_
                          refine gops_nil ?_
                          refine gcut3_end (()) (trivial) ⟨(congrArg Value.bool (by first | (simp_all [badE, isEmptyS]; done) | (simp_all [badE, isEmptyS]; omega))), trivial⟩ ⟨rfl, rfl, rfl, trivial⟩ ⟨_, rfl⟩
                        · 
                          have hg62d := of_decide_eq_false hg62
                          refine gop_off rfl rfl rfl rfl hg62 rfl rfl ?_
                          refine gop (y_pick_f (v := .bool _) rfl hg62 rfl) rfl rfl rfl ?_
                          refine gop (y_assign (v := .bool _) rfl) rfl rfl rfl ?_
                          refine gops_nil ?_
                          refine gcut3_end (()) (trivial) ⟨(congrArg Value.bool (by first | (simp_all [badE, isEmptyS]; done) | (simp_all [badE, isEmptyS]; omega))), trivial⟩ ⟨rfl, rfl, rfl, trivial⟩ ⟨_, rfl⟩
                  · 
                    have hg49d := hg49
                    refine gop_off rfl rfl rfl rfl hg49 rfl rfl ?_
                    refine gop (y_pick_f (v := .bool _) rfl hg49 rfl) rfl rfl rfl ?_
                    refine gop (y_move (v := .bool _) rfl) rfl rfl rfl ?_
                    refine gop_off rfl rfl rfl rfl rfl rfl rfl ?_
                    refine gop_off rfl rfl rfl rfl rfl rfl rfl ?_
                    refine gop (y_pick_f (v := .bool _) rfl rfl rfl) rfl rfl rfl ?_
                    refine gop (y_assign (v := .bool _) rfl) rfl rfl rfl ?_
                    refine gops_nil ?_
                    refine hN11 _ _ ?_
                    refine gfrom [(1, .pointer _), (3, .bool _), (4, .bool _), (6, .bool _), (27, .bool _)] ⟨rfl, rfl, rfl, rfl, rfl, trivial⟩ fun σ => ?_
                    refine gcond (b := _) rfl (fun hc27 => ?_) (fun hc27 => ?_)
                    · 
                      have hb := hc27
                      refine gskip ?_
                      refine gcut3_end (()) (trivial) ⟨(congrArg Value.bool (by first | (simp_all [badE, isEmptyS]; done) | (simp_all [badE, isEmptyS]; omega))), trivial⟩ ⟨rfl, rfl, rfl, trivial⟩ ⟨_, rfl⟩
                    · 
                      have hb : ¬ _ := Bool.eq_false_iff.1 hc27
                      refine greg ?_
                      refine gop (y_fieldAddr_box fa29_5 rfl) rfl rfl rfl ?_
                      refine gop (y_fieldAddr_box fa27_0 rfl) rfl rfl rfl ?_
                      refine gop (y_load Tryz.isAgg25 rfl (cell_box 0 rfl rfl)) rfl rfl rfl ?_
                      refine gop (y_len Tryz.underlying25 rfl) rfl rfl rfl ?_
                      refine gop (y_gtr rfl rfl) rfl rfl rfl ?_
                      refine gop (y_move (v := .bool _) rfl) rfl rfl rfl ?_
                      refine gop_if (want := true) rfl rfl rfl rfl rfl rfl (fun hg62 => ?_) (fun hg62 => ?_)
                      · 
                        have hg62d := of_decide_eq_true hg62
                        refine gop (y_bare (y_move (v := .bool _) rfl)) rfl rfl rfl ?_
                        refine gop_on rfl rfl rfl rfl hg62 ?_
                        refine gop (y_bare (y_not rfl)) rfl rfl rfl ?_
                        refine gop (y_pick_t (v := .bool _) rfl hg62 rfl) rfl rfl rfl ?_
                        refine gop (y_assign (v := .bool _) rfl) rfl rfl rfl ?_
                        refine gops_nil ?_
                        refine gcut3_end (()) (trivial) ⟨(congrArg Value.bool (by first | (simp_all [badE, isEmptyS]; done) | (simp_all [badE, isEmptyS]; omega))), trivial⟩ ⟨rfl, rfl, rfl, trivial⟩ ⟨_, rfl⟩
                      · 
                        have hg62d := of_decide_eq_false hg62
                        refine gop_off rfl rfl rfl rfl hg62 rfl rfl ?_
                        refine gop (y_pick_f (v := .bool _) rfl hg62 rfl) rfl rfl rfl ?_
                        refine gop (y_assign (v := .bool _) rfl) rfl rfl rfl ?_
                        refine gops_nil ?_
                        refine gcut3_end (()) (trivial) ⟨(congrArg Value.bool (by first | (simp_all [badE, isEmptyS]; done) | (simp_all [badE, isEmptyS]; omega))), trivial⟩ ⟨rfl, rfl, rfl, trivial⟩ ⟨_, rfl⟩
          · 
            have hg35d := not_f hg35
            refine gop_off rfl rfl rfl rfl hg35 rfl rfl ?_
            refine gop (y_pick_f (v := .bool _) rfl hg35 rfl) rfl rfl rfl ?_
            refine gop (y_assign (v := .bool _) rfl) rfl rfl rfl ?_
            refine gops_nil ?_
            refine hN8 _ _ ?_
            refine gfrom [(1, .pointer _), (3, .bool _), (4, .bool _), (6, .bool _), (27, .bool _)] ⟨rfl, rfl, rfl, rfl, rfl, trivial⟩ fun σ => ?_
            refine gcond (b := _) rfl (fun hc27 => ?_) (fun hc27 => ?_)
            · 
              have hb := hc27
              refine gskip ?_
              refine gcut3_end (()) (trivial) ⟨(congrArg Value.bool (by first | (simp_all [badE, isEmptyS]; done) | (simp_all [badE, isEmptyS]; omega))), trivial⟩ ⟨rfl, rfl, rfl, trivial⟩ ⟨_, rfl⟩
            · 
              have hb : ¬ _ := Bool.eq_false_iff.1 hc27
              refine gseq fun N12 hN12 => ?_
              refine greg ?_
              refine gop (y_fieldAddr_box fa29_3 rfl) rfl rfl rfl ?_
              refine gop (y_load Tryz.isAgg3 rfl (cell_box 0 rfl rfl)) rfl rfl rfl ?_
              refine gop (y_neq rfl rfl) rfl rfl rfl ?_
              refine gop (y_move (v := .bool _) rfl) rfl rfl rfl ?_
              refine gop_if (want := true) rfl rfl rfl rfl rfl rfl (fun hg42 => ?_) (fun hg42 => ?_)
              · 
                have hg42d := of_decide_eq_true hg42
                refine gop (y_bare (y_move (v := .bool _) rfl)) rfl rfl rfl ?_
                refine gop_on rfl rfl rfl rfl hg42 ?_
                refine gop (y_bare (y_not rfl)) rfl rfl rfl ?_
                refine gop (y_pick_t (v := .bool _) rfl hg42 rfl) rfl rfl rfl ?_
                refine gop (y_assign (v := .bool _) rfl) rfl rfl rfl ?_
                refine gops_nil ?_
                refine hN12 _ _ ?_
                refine gfrom [(1, .pointer _), (3, .bool _), (4, .bool _), (6, .bool _), (27, .bool _)] ⟨rfl, rfl, rfl, rfl, rfl, trivial⟩ fun σ => ?_
                refine gcond (b := _) rfl (fun hc27 => ?_) (fun hc27 => ?_)
                · 
                  have hb := hc27
                  refine gskip ?_
                  refine gcut3_end (()) (trivial) ⟨(congrArg Value.bool (by first | (simp_all [badE, isEmptyS]; done) | (simp_all [badE, isEmptyS]; omega))), trivial⟩ ⟨rfl, rfl, rfl, trivial⟩ ⟨_, rfl⟩
                · 
                  have hb : ¬ _ := Bool.eq_false_iff.1 hc27
                  refine gseq fun N13 hN13 => ?_
                  refine greg ?_
                  refine gop (y_fieldAddr_box fa29_4 rfl) rfl rfl rfl ?_
                  refine gop (y_load Tryz.isAgg9 rfl (cell_box 0 rfl rfl)) rfl rfl rfl ?_
                  refine gop (y_neqs rfl rfl) rfl rfl rfl ?_
                  refine gop (y_move (v := .bool _) rfl) rfl rfl rfl ?_
                  refine gop_if (want := true) rfl rfl rfl rfl rfl rfl (fun hg49 => ?_) (fun hg49 => ?_)
                  · 
                    have hg49d := hg49
                    refine gop (y_bare (y_move (v := .bool _) rfl)) rfl rfl rfl ?_
                    refine gop_on rfl rfl rfl rfl hg49 ?_
                    refine gop (y_bare (y_not rfl)) rfl rfl rfl ?_
                    refine gop (y_pick_t (v := .bool _) rfl hg49 rfl) rfl rfl rfl ?_
                    refine gop (y_move (v := .bool _) rfl) rfl rfl rfl ?_
                    refine gop_if (want := true) rfl rfl rfl rfl rfl rfl (fun hg53 => ?_) (fun hg53 => ?_)
                    · 
                      have hg53d := not_t hg53
                      refine gop (y_bare (y_move (v := .bool _) rfl)) rfl rfl rfl ?_
                      refine gop_on rfl rfl rfl rfl hg53 ?_
                      refine gop (y_bare (y_not rfl)) rfl rfl rfl ?_
                      refine gop (y_pick_t (v := .bool _) rfl hg53 rfl) rfl rfl rfl ?_
                      refine gop (y_assign (v := .bool _) rfl) rfl rfl rfl ?_
                      refine gops_nil ?_
                      refine hN13 _ _ ?_
                      refine gfrom [(1, .pointer _), (3, .bool _), (4, .bool _), (6, .bool _), (27, .bool _)] ⟨rfl, rfl, rfl, rfl, rfl, trivial⟩ fun σ => ?_
                      refine gcond (b := _) rfl (fun hc27 => ?_) (fun hc27 => ?_)
                      · 
                        have hb := hc27
                        refine gskip ?_
                        refine gcut3_end (()) (trivial) ⟨(congrArg Value.bool (by first | (simp_all [badE, isEmptyS]; done) | (simp_all [badE, isEmptyS]; omega))), trivial⟩ ⟨rfl, rfl, rfl, trivial⟩ ⟨_, rfl⟩
                      · 
                        have hb : ¬ _ := Bool.eq_false_iff.1 hc27
                        refine greg ?_
                        refine gop (y_fieldAddr_box fa29_5 rfl) rfl rfl rfl ?_
                        refine gop (y_fieldAddr_box fa27_0 rfl) rfl rfl rfl ?_
                        refine gop (y_load Tryz.isAgg25 rfl (cell_box 0 rfl rfl)) rfl rfl rfl ?_
                        refine gop (y_len Tryz.underlying25 rfl) rfl rfl rfl ?_
                        refine gop (y_gtr rfl rfl) rfl rfl rfl ?_
                        refine gop (y_move (v := .bool _) rfl) rfl rfl rfl ?_
                        refine gop_if (want := true) rfl rfl rfl rfl rfl rfl (fun hg62 => ?_) (fun hg62 => ?_)
                        · 
                          have hg62d := of_decide_eq_true hg62
                          refine gop (y_bare (y_move (v := .bool _) rfl)) rfl rfl rfl ?_
                          refine gop_on rfl rfl rfl rfl hg62 ?_
                          refine gop (y_bare (y_not rfl)) rfl rfl rfl ?_
                          refine gop (y_pick_t (v := .bool _) rfl hg62 rfl) rfl rfl rfl ?_
                          refine gop (y_assign (v := .bool _) rfl) rfl rfl rfl ?_
                          refine gops_nil ?_
                          refine gcut3_end (()) (trivial) ⟨(congrArg Value.bool (by first | (simp_all [badE, isEmptyS]; done) | (simp_all [badE, isEmptyS]; omega))), trivial⟩ ⟨rfl, rfl, rfl, trivial⟩ ⟨_, rfl⟩
                        · 
                          have hg62d := of_decide_eq_false hg62
                          refine gop_off rfl rfl rfl rfl hg62 rfl rfl ?_
                          refine gop (y_pick_f (v := .bool _) rfl hg62 rfl) rfl rfl rfl ?_
                          refine gop (y_assign (v := .bool _) rfl) rfl rfl rfl ?_
                          refine gops_nil ?_
                          refine gcut3_end (()) (trivial) ⟨(congrArg Value.bool (by first | (simp_all [badE, isEmptyS]; done) | (simp_all [badE, isEmptyS]; omega))), trivial⟩ ⟨rfl, rfl, rfl, trivial⟩ ⟨_, rfl⟩
                    · 
                      have hg53d := not_f hg53
                      refine gop_off rfl rfl rfl rfl hg53 rfl rfl ?_
                      refine gop (y_pick_f (v := .bool _) rfl hg53 rfl) rfl rfl rfl ?_
                      refine gop (y_assign (v := .bool _) rfl) rfl rfl rfl ?_
                      refine gops_nil ?_
                      refine hN13 _ _ ?_
                      refine gfrom [(1, .pointer _), (3, .bool _), (4, .bool _), (6, .bool _), (27, .bool _)] ⟨rfl, rfl, rfl, rfl, rfl, trivial⟩ fun σ => ?_
                      refine gcond (b := _) rfl (fun hc27 => ?_) (fun hc27 => ?_)
                      · 
                        have hb := hc27
                        refine gskip ?_
                        refine gcut3_end (()) (trivial) ⟨(congrArg Value.bool (by first | (simp_all [badE, isEmptyS]; done) | (simp_all [badE, isEmptyS]; omega))), trivial⟩ ⟨rfl, rfl, rfl, trivial⟩ ⟨_, rfl⟩
                      · 
                        have hb : ¬ _ := Bool.eq_false_iff.1 hc27
                        refine greg ?_
                        refine gop (y_fieldAddr_box fa29_5 rfl) rfl rfl rfl ?_
                        refine gop (y_fieldAddr_box fa27_0 rfl) rfl rfl rfl ?_
                        refine gop (y_load Tryz.isAgg25 rfl (cell_box 0 rfl rfl)) rfl rfl rfl ?_
                        refine gop (y_len Tryz.underlying25 rfl) rfl rfl rfl ?_
                        refine gop (y_gtr rfl rfl) rfl rfl rfl ?_
                        refine gop (y_move (v := .bool _) rfl) rfl rfl rfl ?_
                        refine gop_if (want := true) rfl rfl rfl rfl rfl rfl (fun hg62 => ?_) (fun hg62 => ?_)
                        · 
                          have hg62d := of_decide_eq_true hg62
                          refine gop (y_bare (y_move (v := .bool _) rfl)) rfl rfl rfl ?_
                          refine gop_on rfl rfl rfl rfl hg62 ?_
                          refine gop (y_bare (y_not rfl)) rfl rfl rfl ?_
                          refine gop (y_pick_t (v := .bool _) rfl hg62 rfl) rfl rfl rfl ?_
                          refine gop (y_assign (v := .bool _) rfl) rfl rfl rfl ?_
                          refine gops_nil ?_
                          refine gcut3_end (()) (trivial) ⟨(congrArg Value.bool (by first | (simp_all [badE, isEmptyS]; done) | (simp_all [badE, isEmptyS]; omega))), trivial⟩ ⟨rfl, rfl, rfl, trivial⟩ ⟨_, rfl⟩
                        · 
                          have hg62d := of_decide_eq_false hg62
                          refine gop_off rfl rfl rfl rfl hg62 rfl rfl ?_
                          refine gop (y_pick_f (v := .bool _) rfl hg62 rfl) rfl rfl rfl ?_
                          refine gop (y_assign (v := .bool _) rfl) rfl rfl rfl ?_
                          refine gops_nil ?_
                          refine gcut3_end (()) (trivial) ⟨(congrArg Value.bool (by first | (simp_all [badE, isEmptyS]; done) | (simp_all [badE, isEmptyS]; omega))), trivial⟩ ⟨rfl, rfl, rfl, trivial⟩ ⟨_, rfl⟩
                  · 
                    have hg49d := hg49
                    refine gop_off rfl rfl rfl rfl hg49 rfl rfl ?_
                    refine gop (y_pick_f (v := .bool _) rfl hg49 rfl) rfl rfl rfl ?_
                    refine gop (y_move (v := .bool _) rfl) rfl rfl rfl ?_
                    refine gop_off rfl rfl rfl rfl rfl rfl rfl ?_
                    refine gop_off rfl rfl rfl rfl rfl rfl rfl ?_
                    refine gop (y_pick_f (v := .bool _) rfl rfl rfl) rfl rfl rfl ?_
                    refine gop (y_assign (v := .bool _) rfl) rfl rfl rfl ?_
                    refine gops_nil ?_
                    refine hN13 _ _ ?_
                    refine gfrom [(1, .pointer _), (3, .bool _), (4, .bool _), (6, .bool _), (27, .bool _)] ⟨rfl, rfl, rfl, rfl, rfl, trivial⟩ fun σ => ?_
                    refine gcond (b := _) rfl (fun hc27 => ?_) (fun hc27 => ?_)
                    · 
                      have hb := hc27
                      refine gskip ?_
                      refine gcut3_end (()) (trivial) ⟨(congrArg Value.bool (by first | (simp_all [badE, isEmptyS]; done) | (simp_all [badE, isEmptyS]; omega))), trivial⟩ ⟨rfl, rfl, rfl, trivial⟩ ⟨_, rfl⟩
                    · 
                      have hb : ¬ _ := Bool.eq_false_iff.1 hc27
                      refine greg ?_
                      refine gop (y_fieldAddr_box fa29_5 rfl) rfl rfl rfl ?_
                      refine gop (y_fieldAddr_box fa27_0 rfl) rfl rfl rfl ?_
                      refine gop (y_load Tryz.isAgg25 rfl (cell_box 0 rfl rfl)) rfl rfl rfl ?_
                      refine gop (y_len Tryz.underlying25 rfl) rfl rfl rfl ?_
                      refine gop (y_gtr rfl rfl) rfl rfl rfl ?_
                      refine gop (y_move (v := .bool _) rfl) rfl rfl rfl ?_
                      refine gop_if (want := true) rfl rfl rfl rfl rfl rfl (fun hg62 => ?_) (fun hg62 => ?_)
                      · 
                        have hg62d := of_decide_eq_true hg62
                        refine gop (y_bare (y_move (v := .bool _) rfl)) rfl rfl rfl ?_
                        refine gop_on rfl rfl rfl rfl hg62 ?_
                        refine gop (y_bare (y_not rfl)) rfl rfl rfl ?_
                        refine gop (y_pick_t (v := .bool _) rfl hg62 rfl) rfl rfl rfl ?_
                        refine gop (y_assign (v := .bool _) rfl) rfl rfl rfl ?_
                        refine gops_nil ?_
                        refine gcut3_end (()) (trivial) ⟨(congrArg Value.bool (by first | (simp_all [badE, isEmptyS]; done) | (simp_all [badE, isEmptyS]; omega))), trivial⟩ ⟨rfl, rfl, rfl, trivial⟩ ⟨_, rfl⟩
                      · 
                        have hg62d := of_decide_eq_false hg62
                        refine gop_off rfl rfl rfl rfl hg62 rfl rfl ?_
                        refine gop (y_pick_f (v := .bool _) rfl hg62 rfl) rfl rfl rfl ?_
                        refine gop (y_assign (v := .bool _) rfl) rfl rfl rfl ?_
                        refine gops_nil ?_
                        refine gcut3_end (()) (trivial) ⟨(congrArg Value.bool (by first | (simp_all [badE, isEmptyS]; done) | (simp_all [badE, isEmptyS]; omega))), trivial⟩ ⟨rfl, rfl, rfl, trivial⟩ ⟨_, rfl⟩
              · 
                have hg42d := Decidable.not_not.1 (of_decide_eq_false hg42)
                refine gop_off rfl rfl rfl rfl hg42 rfl rfl ?_
                refine gop (y_pick_f (v := .bool _) rfl hg42 rfl) rfl rfl rfl ?_
                refine gop (y_assign (v := .bool _) rfl) rfl rfl rfl ?_
                refine gops_nil ?_
                refine hN12 _ _ ?_
                refine gfrom [(1, .pointer _), (3, .bool _), (4, .bool _), (6, .bool _), (27, .bool _)] ⟨rfl, rfl, rfl, rfl, rfl, trivial⟩ fun σ => ?_
                refine gcond (b := _) rfl (fun hc27 => ?_) (fun hc27 => ?_)
                · 
                  have hb := hc27
                  refine gskip ?_
                  refine gcut3_end (()) (trivial) ⟨(congrArg Value.bool (by first | (simp_all [badE, isEmptyS]; done) | (simp_all [badE, isEmptyS]; omega))), trivial⟩ ⟨rfl, rfl, rfl, trivial⟩ ⟨_, rfl⟩
                · 
                  have hb : ¬ _ := Bool.eq_false_iff.1 hc27
                  refine gseq fun N14 hN14 => ?_
                  refine greg ?_
                  refine gop (y_fieldAddr_box fa29_4 rfl) rfl rfl rfl ?_
                  refine gop (y_load Tryz.isAgg9 rfl (cell_box 0 rfl rfl)) rfl rfl rfl ?_
                  refine gop (y_neqs rfl rfl) rfl rfl rfl ?_
                  refine gop (y_move (v := .bool _) rfl) rfl rfl rfl ?_
                  refine gop_if (want := true) rfl rfl rfl rfl rfl rfl (fun hg49 => ?_) (fun hg49 => ?_)
                  · 
                    have hg49d := hg49
                    refine gop (y_bare (y_move (v := .bool _) rfl)) rfl rfl rfl ?_
                    refine gop_on rfl rfl rfl rfl hg49 ?_
                    refine gop (y_bare (y_not rfl)) rfl rfl rfl ?_
                    refine gop (y_pick_t (v := .bool _) rfl hg49 rfl) rfl rfl rfl ?_
                    refine gop (y_move (v := .bool _) rfl) rfl rfl rfl ?_
                    refine gop_if (want := true) rfl rfl rfl rfl rfl rfl (fun hg53 => ?_) (fun hg53 => ?_)
                    · 
                      have hg53d := not_t hg53
                      refine gop (y_bare (y_move (v := .bool _) rfl)) rfl rfl rfl ?_
                      refine gop_on rfl rfl rfl rfl hg53 ?_
                      refine gop (y_bare (y_not rfl)) rfl rfl rfl ?_
                      refine gop (y_pick_t (v := .bool _) rfl hg53 rfl) rfl rfl rfl ?_
                      refine gop (y_assign (v := .bool _) rfl) rfl rfl rfl ?_
                      refine gops_nil ?_
                      refine hN14 _ _ ?_
                      refine gfrom [(1, .pointer _), (3, .bool _), (4, .bool _), (6, .bool _), (27, .bool _)] ⟨rfl, rfl, rfl, rfl, rfl, trivial⟩ fun σ => ?_
                      refine gcond (b := _) rfl (fun hc27 => ?_) (fun hc27 => ?_)
                      · 
                        have hb := hc27
                        refine gskip ?_
                        refine gcut3_end (()) (trivial) ⟨(congrArg Value.bool (by first | (simp_all [badE, isEmptyS]; done) | (simp_all [badE, isEmptyS]; omega))), trivial⟩ ⟨rfl, rfl, rfl, trivial⟩ ⟨_, rfl⟩
                      · 
                        have hb : ¬ _ := Bool.eq_false_iff.1 hc27
                        refine greg ?_
                        refine gop (y_fieldAddr_box fa29_5 rfl) rfl rfl rfl ?_
                        refine gop (y_fieldAddr_box fa27_0 rfl) rfl rfl rfl ?_
                        refine gop (y_load Tryz.isAgg25 rfl (cell_box 0 rfl rfl)) rfl rfl rfl ?_
                        refine gop (y_len Tryz.underlying25 rfl) rfl rfl rfl ?_
                        refine gop (y_gtr rfl rfl) rfl rfl rfl ?_
                        refine gop (y_move (v := .bool _) rfl) rfl rfl rfl ?_
                        refine gop_if (want := true) rfl rfl rfl rfl rfl rfl (fun hg62 => ?_) (fun hg62 => ?_)
                        · 
                          have hg62d := of_decide_eq_true hg62
                          refine gop (y_bare (y_move (v := .bool _) rfl)) rfl rfl rfl ?_
                          refine gop_on rfl rfl rfl rfl hg62 ?_
                          refine gop (y_bare (y_not rfl)) rfl rfl rfl ?_
                          refine gop (y_pick_t (v := .bool _) rfl hg62 rfl) rfl rfl rfl ?_
                          refine gop (y_assign (v := .bool _) rfl) rfl rfl rfl ?_
                          refine gops_nil ?_
                          refine gcut3_end (()) (trivial) ⟨(congrArg Value.bool (by first | (simp_all [badE, isEmptyS]; done) | (simp_all [badE, isEmptyS]; omega))), trivial⟩ ⟨rfl, rfl, rfl, trivial⟩ ⟨_, rfl⟩
                        · 
                          have hg62d := of_decide_eq_false hg62
                          refine gop_off rfl rfl rfl rfl hg62 rfl rfl ?_
                          refine gop (y_pick_f (v := .bool _) rfl hg62 rfl) rfl rfl rfl ?_
                          refine gop (y_assign (v := .bool _) rfl) rfl rfl rfl ?_
                          refine gops_nil ?_
                          refine gcut3_end (()) (trivial) ⟨(congrArg Value.bool (by first | (simp_all [badE, isEmptyS]; done) | (simp_all [badE, isEmptyS]; omega))), trivial⟩ ⟨rfl, rfl, rfl, trivial⟩ ⟨_, rfl⟩
                    · 
                      have hg53d := not_f hg53
                      refine gop_off rfl rfl rfl rfl hg53 rfl rfl ?_
                      refine gop (y_pick_f (v := .bool _) rfl hg53 rfl) rfl rfl rfl ?_
                      refine gop (y_assign (v := .bool _) rfl) rfl rfl rfl ?_
                      refine gops_nil ?_
                      refine hN14 _ _ ?_
                      refine gfrom [(1, .pointer _), (3, .bool _), (4, .bool _), (6, .bool _), (27, .bool _)] ⟨rfl, rfl, rfl, rfl, rfl, trivial⟩ fun σ => ?_
                      refine gcond (b := _) rfl (fun hc27 => ?_) (fun hc27 => ?_)
                      · 
                        have hb := hc27
                        refine gskip ?_
                        refine gcut3_end (()) (trivial) ⟨(congrArg Value.bool (by first | (simp_all [badE, isEmptyS]; done) | (simp_all [badE, isEmptyS]; omega))), trivial⟩ ⟨rfl, rfl, rfl, trivial⟩ ⟨_, rfl⟩
                      · 
                        have hb : ¬ _ := Bool.eq_false_iff.1 hc27
                        refine greg ?_
                        refine gop (y_fieldAddr_box fa29_5 rfl) rfl rfl rfl ?_
                        refine gop (y_fieldAddr_box fa27_0 rfl) rfl rfl rfl ?_
                        refine gop (y_load Tryz.isAgg25 rfl (cell_box 0 rfl rfl)) rfl rfl rfl ?_
                        refine gop (y_len Tryz.underlying25 rfl) rfl rfl rfl ?_
                        refine gop (y_gtr rfl rfl) rfl rfl rfl ?_
                        refine gop (y_move (v := .bool _) rfl) rfl rfl rfl ?_
                        refine gop_if (want := true) rfl rfl rfl rfl rfl rfl (fun hg62 => ?_) (fun hg62 => ?_)
                        · 
                          have hg62d := of_decide_eq_true hg62
                          refine gop (y_bare (y_move (v := .bool _) rfl)) rfl rfl rfl ?_
                          refine gop_on rfl rfl rfl rfl hg62 ?_
                          refine gop (y_bare (y_not rfl)) rfl rfl rfl ?_
                          refine gop (y_pick_t (v := .bool _) rfl hg62 rfl) rfl rfl rfl ?_
                          refine gop (y_assign (v := .bool _) rfl) rfl rfl rfl ?_
                          refine gops_nil ?_
                          refine gcut3_end (()) (trivial) ⟨(congrArg Value.bool (by first | (simp_all [badE, isEmptyS]; done) | (simp_all [badE, isEmptyS]; omega))), trivial⟩ ⟨rfl, rfl, rfl, trivial⟩ ⟨_, rfl⟩
                        · 
                          have hg62d := of_decide_eq_false hg62
                          refine gop_off rfl rfl rfl rfl hg62 rfl rfl ?_
                          refine gop (y_pick_f (v := .bool _) rfl hg62 rfl) rfl rfl rfl ?_
                          refine gop (y_assign (v := .bool _) rfl) rfl rfl rfl ?_
                          refine gops_nil ?_
                          refine gcut3_end (()) (trivial) ⟨(congrArg Value.bool (by first | (simp_all [badE, isEmptyS]; done) | (simp_all [badE, isEmptyS]; omega))), trivial⟩ ⟨rfl, rfl, rfl, trivial⟩ ⟨_, rfl⟩
                  · 
                    have hg49d := hg49
                    refine gop_off rfl rfl rfl rfl hg49 rfl rfl ?_
                    refine gop (y_pick_f (v := .bool _) rfl hg49 rfl) rfl rfl rfl ?_
                    refine gop (y_move (v := .bool _) rfl) rfl rfl rfl ?_
                    refine gop_off rfl rfl rfl rfl rfl rfl rfl ?_
                    refine gop_off rfl rfl rfl rfl rfl rfl rfl ?_
                    refine gop (y_pick_f (v := .bool _) rfl rfl rfl) rfl rfl rfl ?_
                    refine gop (y_assign (v := .bool _) rfl) rfl rfl rfl ?_
                    refine gops_nil ?_
                    refine hN14 _ _ ?_
                    refine gfrom [(1, .pointer _), (3, .bool _), (4, .bool _), (6, .bool _), (27, .bool _)] ⟨rfl, rfl, rfl, rfl, rfl, trivial⟩ fun σ => ?_
                    refine gcond (b := _) rfl (fun hc27 => ?_) (fun hc27 => ?_)
                    · 
                      have hb := hc27
                      refine gskip ?_
                      refine gcut3_end (()) (trivial) ⟨(congrArg Value.bool (by first | (simp_all [badE, isEmptyS]; done) | (simp_all [badE, isEmptyS]; omega))), trivial⟩ ⟨rfl, rfl, rfl, trivial⟩ ⟨_, rfl⟩
                    · 
                      have hb : ¬ _ := Bool.eq_false_iff.1 hc27
                      refine greg ?_
                      refine gop (y_fieldAddr_box fa29_5 rfl) rfl rfl rfl ?_
                      refine gop (y_fieldAddr_box fa27_0 rfl) rfl rfl rfl ?_
                      refine gop (y_load Tryz.isAgg25 rfl (cell_box 0 rfl rfl)) rfl rfl rfl ?_
                      refine gop (y_len Tryz.underlying25 rfl) rfl rfl rfl ?_
                      refine gop (y_gtr rfl rfl) rfl rfl rfl ?_
                      refine gop (y_move (v := .bool _) rfl) rfl rfl rfl ?_
                      refine gop_if (want := true) rfl rfl rfl rfl rfl rfl (fun hg62 => ?_) (fun hg62 => ?_)
                      · 
                        have hg62d := of_decide_eq_true hg62
                        refine gop (y_bare (y_move (v := .bool _) rfl)) rfl rfl rfl ?_
                        refine gop_on rfl rfl rfl rfl hg62 ?_
                        refine gop (y_bare (y_not rfl)) rfl rfl rfl ?_
                        refine gop (y_pick_t (v := .bool _) rfl hg62 rfl) rfl rfl rfl ?_
                        refine gop (y_assign (v := .bool _) rfl) rfl rfl rfl ?_
                        refine gops_nil ?_
                        refine gcut3_end (()) (trivial) ⟨(congrArg Value.bool (by first | (simp_all [badE, isEmptyS]; done) | (simp_all [badE, isEmptyS]; omega))), trivial⟩ ⟨rfl, rfl, rfl, trivial⟩ ⟨_, rfl⟩
                      · 
                        have hg62d := of_decide_eq_false hg62
                        refine gop_off rfl rfl rfl rfl hg62 rfl rfl ?_
                        refine gop (y_pick_f (v := .bool _) rfl hg62 rfl) rfl rfl rfl ?_
                        refine gop (y_assign (v := .bool _) rfl) rfl rfl rfl ?_
                        refine gops_nil ?_
                        refine gcut3_end (()) (trivial) ⟨(congrArg Value.bool (by first | (simp_all [badE, isEmptyS]; done) | (simp_all [badE, isEmptyS]; omega))), trivial⟩ ⟨rfl, rfl, rfl, trivial⟩ ⟨_, rfl⟩
        · 
          have hg31d := Decidable.not_not.1 (of_decide_eq_false hg31)
          refine gop_off rfl rfl rfl rfl hg31 rfl rfl ?_
          refine gop (y_pick_f (v := .bool _) rfl hg31 rfl) rfl rfl rfl ?_
          refine gop (y_move (v := .bool _) rfl) rfl rfl rfl ?_
          refine gop_off rfl rfl rfl rfl rfl rfl rfl ?_
          refine gop_off rfl rfl rfl rfl rfl rfl rfl ?_
          refine gop (y_pick_f (v := .bool _) rfl rfl rfl) rfl rfl rfl ?_
          refine gop (y_assign (v := .bool _) rfl) rfl rfl rfl ?_
          refine gops_nil ?_
          refine hN8 _ _ ?_
          refine gfrom [(1, .pointer _), (3, .bool _), (4, .bool _), (6, .bool _), (27, .bool _)] ⟨rfl, rfl, rfl, rfl, rfl, trivial⟩ fun σ => ?_
          refine gcond (b := _) rfl (fun hc27 => ?_) (fun hc27 => ?_)
          · 
            have hb := hc27
            refine gskip ?_
            refine gcut3_end (()) (trivial) ⟨(congrArg Value.bool (by first | (simp_all [badE, isEmptyS]; done) | (simp_all [badE, isEmptyS]; omega))), trivial⟩ ⟨rfl, rfl, rfl, trivial⟩ ⟨_, rfl⟩
          · 
            have hb : ¬ _ := Bool.eq_false_iff.1 hc27
            refine gseq fun N15 hN15 => ?_
            refine greg ?_
            refine gop (y_fieldAddr_box fa29_3 rfl) rfl rfl rfl ?_
            refine gop (y_load Tryz.isAgg3 rfl (cell_box 0 rfl rfl)) rfl rfl rfl ?_
            refine gop (y_neq rfl rfl) rfl rfl rfl ?_
            refine gop (y_move (v := .bool _) rfl) rfl rfl rfl ?_
            refine gop_if (want := true) rfl rfl rfl rfl rfl rfl (fun hg42 => ?_) (fun hg42 => ?_)
            · 
              have hg42d := of_decide_eq_true hg42
              refine gop (y_bare (y_move (v := .bool _) rfl)) rfl rfl rfl ?_
              refine gop_on rfl rfl rfl rfl hg42 ?_
              refine gop (y_bare (y_not rfl)) rfl rfl rfl ?_
              refine gop (y_pick_t (v := .bool _) rfl hg42 rfl) rfl rfl rfl ?_
              refine gop (y_assign (v := .bool _) rfl) rfl rfl rfl ?_
              refine gops_nil ?_
              refine hN15 _ _ ?_
              refine gfrom [(1, .pointer _), (3, .bool _), (4, .bool _), (6, .bool _), (27, .bool _)] ⟨rfl, rfl, rfl, rfl, rfl, trivial⟩ fun σ => ?_
              refine gcond (b := _) rfl (fun hc27 => ?_) (fun hc27 => ?_)
              · 
                have hb := hc27
                refine gskip ?_
                refine gcut3_end (()) (trivial) ⟨(congrArg Value.bool (by first | (simp_all [badE, isEmptyS]; done) | (simp_all [badE, isEmptyS]; omega))), trivial⟩ ⟨rfl, rfl, rfl, trivial⟩ ⟨_, rfl⟩
              · 
                have hb : ¬ _ := Bool.eq_false_iff.1 hc27
                refine gseq fun N16 hN16 => ?_
                refine greg ?_
                refine gop (y_fieldAddr_box fa29_4 rfl) rfl rfl rfl ?_
                refine gop (y_load Tryz.isAgg9 rfl (cell_box 0 rfl rfl)) rfl rfl rfl ?_
                refine gop (y_neqs rfl rfl) rfl rfl rfl ?_
                refine gop (y_move (v := .bool _) rfl) rfl rfl rfl ?_
                refine gop_if (want := true) rfl rfl rfl rfl rfl rfl (fun hg49 => ?_) (fun hg49 => ?_)
                · 
                  have hg49d := hg49
                  refine gop (y_bare (y_move (v := .bool _) rfl)) rfl rfl rfl ?_
                  refine gop_on rfl rfl rfl rfl hg49 ?_
                  refine gop (y_bare (y_not rfl)) rfl rfl rfl ?_
                  refine gop (y_pick_t (v := .bool _) rfl hg49 rfl) rfl rfl rfl ?_
                  refine gop (y_move (v := .bool _) rfl) rfl rfl rfl ?_
                  refine gop_if (want := true) rfl rfl rfl rfl rfl rfl (fun hg53 => ?_) (fun hg53 => ?_)
                  · 
                    have hg53d := not_t hg53
                    refine gop (y_bare (y_move (v := .bool _) rfl)) rfl rfl rfl ?_
                    refine gop_on rfl rfl rfl rfl hg53 ?_
                    refine gop (y_bare (y_not rfl)) rfl rfl rfl ?_
                    refine gop (y_pick_t (v := .bool _) rfl hg53 rfl) rfl rfl rfl ?_
                    refine gop (y_assign (v := .bool _) rfl) rfl rfl rfl ?_
                    refine gops_nil ?_
                    refine hN16 _ _ ?_
                    refine gfrom [(1, .pointer _), (3, .bool _), (4, .bool _), (6, .bool _), (27, .bool _)] ⟨rfl, rfl, rfl, rfl, rfl, trivial⟩ fun σ => ?_
                    refine gcond (b := _) rfl (fun hc27 => ?_) (fun hc27 => ?_)
                    · 
                      have hb := hc27
                      refine gskip ?_
                      refine gcut3_end (()) (trivial) ⟨(congrArg Value.bool (by first | (simp_all [badE, isEmptyS]; done) | (simp_all [badE, isEmptyS]; omega))), trivial⟩ ⟨rfl, rfl, rfl, trivial⟩ ⟨_, rfl⟩
                    · 
                      have hb : ¬ _ := Bool.eq_false_iff.1 hc27
                      refine greg ?_
                      refine gop (y_fieldAddr_box fa29_5 rfl) rfl rfl rfl ?_
                      refine gop (y_fieldAddr_box fa27_0 rfl) rfl rfl rfl ?_
                      refine gop (y_load Tryz.isAgg25 rfl (cell_box 0 rfl rfl)) rfl rfl rfl ?_
                      refine gop (y_len Tryz.underlying25 rfl) rfl rfl rfl ?_
                      refine gop (y_gtr rfl rfl) rfl rfl rfl ?_
                      refine gop (y_move (v := .bool _) rfl) rfl rfl rfl ?_
                      refine gop_if (want := true) rfl rfl rfl rfl rfl rfl (fun hg62 => ?_) (fun hg62 => ?_)
                      · 
                        have hg62d := of_decide_eq_true hg62
                        refine gop (y_bare (y_move (v := .bool _) rfl)) rfl rfl rfl ?_
                        refine gop_on rfl rfl rfl rfl hg62 ?_
                        refine gop (y_bare (y_not rfl)) rfl rfl rfl ?_
                        refine gop (y_pick_t (v := .bool _) rfl hg62 rfl) rfl rfl rfl ?_
                        refine gop (y_assign (v := .bool _) rfl) rfl rfl rfl ?_
                        refine gops_nil ?_
                        refine gcut3_end (()) (trivial) ⟨(congrArg Value.bool (by first | (simp_all [badE, isEmptyS]; done) | (simp_all [badE, isEmptyS]; omega))), trivial⟩ ⟨rfl, rfl, rfl, trivial⟩ ⟨_, rfl⟩
                      · 
                        have hg62d := of_decide_eq_false hg62
                        refine gop_off rfl rfl rfl rfl hg62 rfl rfl ?_
                        refine gop (y_pick_f (v := .bool _) rfl hg62 rfl) rfl rfl rfl ?_
                        refine gop (y_assign (v := .bool _) rfl) rfl rfl rfl ?_
                        refine gops_nil ?_
                        refine gcut3_end (()) (trivial) ⟨(congrArg Value.bool (by first | (simp_all [badE, isEmptyS]; done) | (simp_all [badE, isEmptyS]; omega))), trivial⟩ ⟨rfl, rfl, rfl, trivial⟩ ⟨_, rfl⟩
                  · 
                    have hg53d := not_f hg53
                    refine gop_off rfl rfl rfl rfl hg53 rfl rfl ?_
                    refine gop (y_pick_f (v := .bool _) rfl hg53 rfl) rfl rfl rfl ?_
                    refine gop (y_assign (v := .bool _) rfl) rfl rfl rfl ?_
                    refine gops_nil ?_
                    refine hN16 _ _ ?_
                    refine gfrom [(1, .pointer _), (3, .bool _), (4, .bool _), (6, .bool _), (27, .bool _)] ⟨rfl, rfl, rfl, rfl, rfl, trivial⟩ fun σ => ?_
                    refine gcond (b := _) rfl (fun hc27 => ?_) (fun hc27 => ?_)
                    · 
                      have hb := hc27
                      refine gskip ?_
                      refine gcut3_end (()) (trivial) ⟨(congrArg Value.bool (by first | (simp_all [badE, isEmptyS]; done) | (simp_all [badE, isEmptyS]; omega))), trivial⟩ ⟨rfl, rfl, rfl, trivial⟩ ⟨_, rfl⟩
                    · 
                      have hb : ¬ _ := Bool.eq_false_iff.1 hc27
                      refine greg ?_
                      refine gop (y_fieldAddr_box fa29_5 rfl) rfl rfl rfl ?_
                      refine gop (y_fieldAddr_box fa27_0 rfl) rfl rfl rfl ?_
                      refine gop (y_load Tryz.isAgg25 rfl (cell_box 0 rfl rfl)) rfl rfl rfl ?_
                      refine gop (y_len Tryz.underlying25 rfl) rfl rfl rfl ?_
                      refine gop (y_gtr rfl rfl) rfl rfl rfl ?_
                      refine gop (y_move (v := .bool _) rfl) rfl rfl rfl ?_
                      refine gop_if (want := true) rfl rfl rfl rfl rfl rfl (fun hg62 => ?_) (fun hg62 => ?_)
                      · 
                        have hg62d := of_decide_eq_true hg62
                        refine gop (y_bare (y_move (v := .bool _) rfl)) rfl rfl rfl ?_
                        refine gop_on rfl rfl rfl rfl hg62 ?_
                        refine gop (y_bare (y_not rfl)) rfl rfl rfl ?_
                        refine gop (y_pick_t (v := .bool _) rfl hg62 rfl) rfl rfl rfl ?_
                        refine gop (y_assign (v := .bool _) rfl) rfl rfl rfl ?_
                        refine gops_nil ?_
                        refine gcut3_end (()) (trivial) ⟨(congrArg Value.bool (by first | (simp_all [badE, isEmptyS]; done) | (simp_all [badE, isEmptyS]; omega))), trivial⟩ ⟨rfl, rfl, rfl, trivial⟩ ⟨_, rfl⟩
                      · 
                        have hg62d := of_decide_eq_false hg62
                        refine gop_off rfl rfl rfl rfl hg62 rfl rfl ?_
                        refine gop (y_pick_f (v := .bool _) rfl hg62 rfl) rfl rfl rfl ?_
                        refine gop (y_assign (v := .bool _) rfl) rfl rfl rfl ?_
                        refine gops_nil ?_
                        refine gcut3_end (()) (trivial) ⟨(congrArg Value.bool (by first | (simp_all [badE, isEmptyS]; done) | (simp_all [badE, isEmptyS]; omega))), trivial⟩ ⟨rfl, rfl, rfl, trivial⟩ ⟨_, rfl⟩
                · 
                  have hg49d := hg49
                  refine gop_off rfl rfl rfl rfl hg49 rfl rfl ?_
                  refine gop (y_pick_f (v := .bool _) rfl hg49 rfl) rfl rfl rfl ?_
                  refine gop (y_move (v := .bool _) rfl) rfl rfl rfl ?_
                  refine gop_off rfl rfl rfl rfl rfl rfl rfl ?_
                  refine gop_off rfl rfl rfl rfl rfl rfl rfl ?_
                  refine gop (y_pick_f (v := .bool _) rfl rfl rfl) rfl rfl rfl ?_
                  refine gop (y_assign (v := .bool _) rfl) rfl rfl rfl ?_
                  refine gops_nil ?_
                  refine hN16 _ _ ?_
                  refine gfrom [(1, .pointer _), (3, .bool _), (4, .bool _), (6, .bool _), (27, .bool _)] ⟨rfl, rfl, rfl, rfl, rfl, trivial⟩ fun σ => ?_
                  refine gcond (b := _) rfl (fun hc27 => ?_) (fun hc27 => ?_)
                  · 
                    have hb := hc27
                    refine gskip ?_
                    refine gcut3_end (()) (trivial) ⟨(congrArg Value.bool (by first | (simp_all [badE, isEmptyS]; done) | (simp_all [badE, isEmptyS]; omega))), trivial⟩ ⟨rfl, rfl, rfl, trivial⟩ ⟨_, rfl⟩
                  · 
                    have hb : ¬ _ := Bool.eq_false_iff.1 hc27
                    refine greg ?_
                    refine gop (y_fieldAddr_box fa29_5 rfl) rfl rfl rfl ?_
                    refine gop (y_fieldAddr_box fa27_0 rfl) rfl rfl rfl ?_
                    refine gop (y_load Tryz.isAgg25 rfl (cell_box 0 rfl rfl)) rfl rfl rfl ?_
                    refine gop (y_len Tryz.underlying25 rfl) rfl rfl rfl ?_
                    refine gop (y_gtr rfl rfl) rfl rfl rfl ?_
                    refine gop (y_move (v := .bool _) rfl) rfl rfl rfl ?_
                    refine gop_if (want := true) rfl rfl rfl rfl rfl rfl (fun hg62 => ?_) (fun hg62 => ?_)
                    · 
                      have hg62d := of_decide_eq_true hg62
                      refine gop (y_bare (y_move (v := .bool _) rfl)) rfl rfl rfl ?_
                      refine gop_on rfl rfl rfl rfl hg62 ?_
                      refine gop (y_bare (y_not rfl)) rfl rfl rfl ?_
                      refine gop (y_pick_t (v := .bool _) rfl hg62 rfl) rfl rfl rfl ?_
                      refine gop (y_assign (v := .bool _) rfl) rfl rfl rfl ?_
                      refine gops_nil ?_
                      refine gcut3_end (()) (trivial) ⟨(congrArg Value.bool (by first | (simp_all [badE, isEmptyS]; done) | (simp_all [badE, isEmptyS]; omega))), trivial⟩ ⟨rfl, rfl, rfl, trivial⟩ ⟨_, rfl⟩
                    · 
                      have hg62d := of_decide_eq_false hg62
                      refine gop_off rfl rfl rfl rfl hg62 rfl rfl ?_
                      refine gop (y_pick_f (v := .bool _) rfl hg62 rfl) rfl rfl rfl ?_
                      refine gop (y_assign (v := .bool _) rfl) rfl rfl rfl ?_
                      refine gops_nil ?_
                      refine gcut3_end (()) (trivial) ⟨(congrArg Value.bool (by first | (simp_all [badE, isEmptyS]; done) | (simp_all [badE, isEmptyS]; omega))), trivial⟩ ⟨rfl, rfl, rfl, trivial⟩ ⟨_, rfl⟩
            · 
              have hg42d := Decidable.not_not.1 (of_decide_eq_false hg42)
              refine gop_off rfl rfl rfl rfl hg42 rfl rfl ?_
              refine gop (y_pick_f (v := .bool _) rfl hg42 rfl) rfl rfl rfl ?_
              refine gop (y_assign (v := .bool _) rfl) rfl rfl rfl ?_
              refine gops_nil ?_
              refine hN15 _ _ ?_
              refine gfrom [(1, .pointer _), (3, .bool _), (4, .bool _), (6, .bool _), (27, .bool _)] ⟨rfl, rfl, rfl, rfl, rfl, trivial⟩ fun σ => ?_
              refine gcond (b := _) rfl (fun hc27 => ?_) (fun hc27 => ?_)
              · 
                have hb := hc27
                refine gskip ?_
                refine gcut3_end (()) (trivial) ⟨(congrArg Value.bool (by first | (simp_all [badE, isEmptyS]; done) | (simp_all [badE, isEmptyS]; omega))), trivial⟩ ⟨rfl, rfl, rfl, trivial⟩ ⟨_, rfl⟩
              · 
                have hb : ¬ _ := Bool.eq_false_iff.1 hc27
                refine gseq fun N17 hN17 => ?_
                refine greg ?_
                refine gop (y_fieldAddr_box fa29_4 rfl) rfl rfl rfl ?_
                refine gop (y_load Tryz.isAgg9 rfl (cell_box 0 rfl rfl)) rfl rfl rfl ?_
                refine gop (y_neqs rfl rfl) rfl rfl rfl ?_
                refine gop (y_move (v := .bool _) rfl) rfl rfl rfl ?_
                refine gop_if (want := true) rfl rfl rfl rfl rfl rfl (fun hg49 => ?_) (fun hg49 => ?_)
                · 
                  have hg49d := hg49
                  refine gop (y_bare (y_move (v := .bool _) rfl)) rfl rfl rfl ?_
                  refine gop_on rfl rfl rfl rfl hg49 ?_
                  refine gop (y_bare (y_not rfl)) rfl rfl rfl ?_
                  refine gop (y_pick_t (v := .bool _) rfl hg49 rfl) rfl rfl rfl ?_
                  refine gop (y_move (v := .bool _) rfl) rfl rfl rfl ?_
                  refine gop_if (want := true) rfl rfl rfl rfl rfl rfl (fun hg53 => ?_) (fun hg53 => ?_)
                  · 
                    have hg53d := not_t hg53
                    refine gop (y_bare (y_move (v := .bool _) rfl)) rfl rfl rfl ?_
                    refine gop_on rfl rfl rfl rfl hg53 ?_
                    refine gop (y_bare (y_not rfl)) rfl rfl rfl ?_
                    refine gop (y_pick_t (v := .bool _) rfl hg53 rfl) rfl rfl rfl ?_
                    refine gop (y_assign (v := .bool _) rfl) rfl rfl rfl ?_
                    refine gops_nil ?_
                    refine hN17 _ _ ?_
                    refine gfrom [(1, .pointer _), (3, .bool _), (4, .bool _), (6, .bool _), (27, .bool _)] ⟨rfl, rfl, rfl, rfl, rfl, trivial⟩ fun σ => ?_
                    refine gcond (b := _) rfl (fun hc27 => ?_) (fun hc27 => ?_)
                    · 
                      have hb := hc27
                      refine gskip ?_
                      refine gcut3_end (()) (trivial) ⟨(congrArg Value.bool (by first | (simp_all [badE, isEmptyS]; done) | (simp_all [badE, isEmptyS]; omega))), trivial⟩ ⟨rfl, rfl, rfl, trivial⟩ ⟨_, rfl⟩
                    · 
                      have hb : ¬ _ := Bool.eq_false_iff.1 hc27
                      refine greg ?_
                      refine gop (y_fieldAddr_box fa29_5 rfl) rfl rfl rfl ?_
                      refine gop (y_fieldAddr_box fa27_0 rfl) rfl rfl rfl ?_
                      refine gop (y_load Tryz.isAgg25 rfl (cell_box 0 rfl rfl)) rfl rfl rfl ?_
                      refine gop (y_len Tryz.underlying25 rfl) rfl rfl rfl ?_
                      refine gop (y_gtr rfl rfl) rfl rfl rfl ?_
                      refine gop (y_move (v := .bool _) rfl) rfl rfl rfl ?_
                      refine gop_if (want := true) rfl rfl rfl rfl rfl rfl (fun hg62 => ?_) (fun hg62 => ?_)
                      · 
                        have hg62d := of_decide_eq_true hg62
                        refine gop (y_bare (y_move (v := .bool _) rfl)) rfl rfl rfl ?_
                        refine gop_on rfl rfl rfl rfl hg62 ?_
                        refine gop (y_bare (y_not rfl)) rfl rfl rfl ?_
                        refine gop (y_pick_t (v := .bool _) rfl hg62 rfl) rfl rfl rfl ?_
                        refine gop (y_assign (v := .bool _) rfl) rfl rfl rfl ?_
                        refine gops_nil ?_
                        refine gcut3_end (()) (trivial) ⟨(congrArg Value.bool (by first | (simp_all [badE, isEmptyS]; done) | (simp_all [badE, isEmptyS]; omega))), trivial⟩ ⟨rfl, rfl, rfl, trivial⟩ ⟨_, rfl⟩
                      · 
                        have hg62d := of_decide_eq_false hg62
                        refine gop_off rfl rfl rfl rfl hg62 rfl rfl ?_
                        refine gop (y_pick_f (v := .bool _) rfl hg62 rfl) rfl rfl rfl ?_
                        refine gop (y_assign (v := .bool _) rfl) rfl rfl rfl ?_
                        refine gops_nil ?_
                        refine gcut3_end (()) (trivial) ⟨(congrArg Value.bool (by first | (simp_all [badE, isEmptyS]; done) | (simp_all [badE, isEmptyS]; omega))), trivial⟩ ⟨rfl, rfl, rfl, trivial⟩ ⟨_, rfl⟩
                  · 
                    have hg53d := not_f hg53
                    refine gop_off rfl rfl rfl rfl hg53 rfl rfl ?_
                    refine gop (y_pick_f (v := .bool _) rfl hg53 rfl) rfl rfl rfl ?_
                    refine gop (y_assign (v := .bool _) rfl) rfl rfl rfl ?_
                    refine gops_nil ?_
                    refine hN17 _ _ ?_
                    refine gfrom [(1, .pointer _), (3, .bool _), (4, .bool _), (6, .bool _), (27, .bool _)] ⟨rfl, rfl, rfl, rfl, rfl, trivial⟩ fun σ => ?_
                    refine gcond (b := _) rfl (fun hc27 => ?_) (fun hc27 => ?_)
                    · 
                      have hb := hc27
                      refine gskip ?_
                      refine gcut3_end (()) (trivial) ⟨(congrArg Value.bool (by first | (simp_all [badE, isEmptyS]; done) | (simp_all [badE, isEmptyS]; omega))), trivial⟩ ⟨rfl, rfl, rfl, trivial⟩ ⟨_, rfl⟩
                    · 
                      have hb : ¬ _ := Bool.eq_false_iff.1 hc27
                      refine greg ?_
                      refine gop (y_fieldAddr_box fa29_5 rfl) rfl rfl rfl ?_
                      refine gop (y_fieldAddr_box fa27_0 rfl) rfl rfl rfl ?_
                      refine gop (y_load Tryz.isAgg25 rfl (cell_box 0 rfl rfl)) rfl rfl rfl ?_
                      refine gop (y_len Tryz.underlying25 rfl) rfl rfl rfl ?_
                      refine gop (y_gtr rfl rfl) rfl rfl rfl ?_
                      refine gop (y_move (v := .bool _) rfl) rfl rfl rfl ?_
                      refine gop_if (want := true) rfl rfl rfl rfl rfl rfl (fun hg62 => ?_) (fun hg62 => ?_)
                      · 
                        have hg62d := of_decide_eq_true hg62
                        refine gop (y_bare (y_move (v := .bool _) rfl)) rfl rfl rfl ?_
                        refine gop_on rfl rfl rfl rfl hg62 ?_
                        refine gop (y_bare (y_not rfl)) rfl rfl rfl ?_
                        refine gop (y_pick_t (v := .bool _) rfl hg62 rfl) rfl rfl rfl ?_
                        refine gop (y_assign (v := .bool _) rfl) rfl rfl rfl ?_
                        refine gops_nil ?_
                        refine gcut3_end (()) (trivial) ⟨(congrArg Value.bool (by first | (simp_all [badE, isEmptyS]; done) | (simp_all [badE, isEmptyS]; omega))), trivial⟩ ⟨rfl, rfl, rfl, trivial⟩ ⟨_, rfl⟩
                      · 
                        have hg62d := of_decide_eq_false hg62
                        refine gop_off rfl rfl rfl rfl hg62 rfl rfl ?_
                        refine gop (y_pick_f (v := .bool _) rfl hg62 rfl) rfl rfl rfl ?_
                        refine gop (y_assign (v := .bool _) rfl) rfl rfl rfl ?_
                        refine gops_nil ?_
                        refine gcut3_end (()) (trivial) ⟨(congrArg Value.bool (by first | (simp_all [badE, isEmptyS]; done) | (simp_all [badE, isEmptyS]; omega))), trivial⟩ ⟨rfl, rfl, rfl, trivial⟩ ⟨_, rfl⟩
                · 
                  have hg49d := hg49
                  refine gop_off rfl rfl rfl rfl hg49 rfl rfl ?_
                  refine gop (y_pick_f (v := .bool _) rfl hg49 rfl) rfl rfl rfl ?_
                  refine gop (y_move (v := .bool _) rfl) rfl rfl rfl ?_
                  refine gop_off rfl rfl rfl rfl rfl rfl rfl ?_
                  refine gop_off rfl rfl rfl rfl rfl rfl rfl ?_
                  refine gop (y_pick_f (v := .bool _) rfl rfl rfl) rfl rfl rfl ?_
                  refine gop (y_assign (v := .bool _) rfl) rfl rfl rfl ?_
                  refine gops_nil ?_
                  refine hN17 _ _ ?_
                  refine gfrom [(1, .pointer _), (3, .bool _), (4, .bool _), (6, .bool _), (27, .bool _)] ⟨rfl, rfl, rfl, rfl, rfl, trivial⟩ fun σ => ?_
                  refine gcond (b := _) rfl (fun hc27 => ?_) (fun hc27 => ?_)
                  · 
                    have hb := hc27
                    refine gskip ?_
                    refine gcut3_end (()) (trivial) ⟨(congrArg Value.bool (by first | (simp_all [badE, isEmptyS]; done) | (simp_all [badE, isEmptyS]; omega))), trivial⟩ ⟨rfl, rfl, rfl, trivial⟩ ⟨_, rfl⟩
                  · 
                    have hb : ¬ _ := Bool.eq_false_iff.1 hc27
                    refine greg ?_
                    refine gop (y_fieldAddr_box fa29_5 rfl) rfl rfl rfl ?_
                    refine gop (y_fieldAddr_box fa27_0 rfl) rfl rfl rfl ?_
                    refine gop (y_load Tryz.isAgg25 rfl (cell_box 0 rfl rfl)) rfl rfl rfl ?_
                    refine gop (y_len Tryz.underlying25 rfl) rfl rfl rfl ?_
                    refine gop (y_gtr rfl rfl) rfl rfl rfl ?_
                    refine gop (y_move (v := .bool _) rfl) rfl rfl rfl ?_
                    refine gop_if (want := true) rfl rfl rfl rfl rfl rfl (fun hg62 => ?_) (fun hg62 => ?_)
                    · 
                      have hg62d := of_decide_eq_true hg62
                      refine gop (y_bare (y_move (v := .bool _) rfl)) rfl rfl rfl ?_
                      refine gop_on rfl rfl rfl rfl hg62 ?_
                      refine gop (y_bare (y_not rfl)) rfl rfl rfl ?_
                      refine gop (y_pick_t (v := .bool _) rfl hg62 rfl) rfl rfl rfl ?_
                      refine gop (y_assign (v := .bool _) rfl) rfl rfl rfl ?_
                      refine gops_nil ?_
                      refine gcut3_end (()) (trivial) ⟨(congrArg Value.bool (by first | (simp_all [badE, isEmptyS]; done) | (simp_all [badE, isEmptyS]; omega))), trivial⟩ ⟨rfl, rfl, rfl, trivial⟩ ⟨_, rfl⟩
                    · 
                      have hg62d := of_decide_eq_false hg62
                      refine gop_off rfl rfl rfl rfl hg62 rfl rfl ?_
                      refine gop (y_pick_f (v := .bool _) rfl hg62 rfl) rfl rfl rfl ?_
                      refine gop (y_assign (v := .bool _) rfl) rfl rfl rfl ?_
                      refine gops_nil ?_
                      refine gcut3_end (()) (trivial) ⟨(congrArg Value.bool (by first | (simp_all [badE, isEmptyS]; done) | (simp_all [badE, isEmptyS]; omega))), trivial⟩ ⟨rfl, rfl, rfl, trivial⟩ ⟨_, rfl⟩
      ·
        intro g hcut σ
        refine hN7 _ _ ?_
        refine gcond (b := _) rfl (fun hc27 => ?_) (fun hc27 => ?_)
        · 
          have hb := hc27
          refine gseq fun N18 hN18 => ?_
          refine greg ?_
          refine gop (y_assign (v := .int _ _) rfl) rfl rfl rfl ?_
          refine gops_nil ?_
          refine hN18 _ _ ?_
          refine gT [box b1 _] rfl ?_
          refine gfrom [(2, .int _ _)] ⟨rfl, trivial⟩ fun σ => ?_
          refine gret fun w1 hM => ?_
          refine ⟨_, res1 rfl (rt (v := .int _ _) rfl), ?_⟩
          exact ⟨by rw [formC, if_neg hK, if_pos hb], hM.low⟩
        · 
          have hb : ¬ _ := Bool.eq_false_iff.1 hc27
          refine gseq fun N19 hN19 => ?_
          refine greg ?_
          refine gop (y_fieldAddr_box fa29_1 rfl) rfl rfl rfl ?_
          refine gop (y_load Tryz.isAgg3 rfl (cell_box 0 rfl rfl)) rfl rfl rfl ?_
          refine gop (y_lss rfl rfl) rfl rfl rfl ?_
          refine gop (y_move (v := .bool _) rfl) rfl rfl rfl ?_
          refine gop_if (want := false) rfl rfl rfl rfl rfl rfl (fun hg70 => ?_) (fun hg70 => ?_)
          · 
            have hg70d := of_decide_eq_false hg70
            refine gop (y_bare (y_fieldAddr_box fa29_1 rfl)) rfl rfl rfl ?_
            refine gop_on rfl rfl rfl rfl hg70 ?_
            refine gop (y_bare (y_load Tryz.isAgg3 rfl (cell_box 0 rfl rfl))) rfl rfl rfl ?_
            refine gop_on rfl rfl rfl rfl hg70 ?_
            refine gop (y_bare (y_gtr rfl rfl)) rfl rfl rfl ?_
            refine gop (y_pick_f (v := .bool _) rfl hg70 rfl) rfl rfl rfl ?_
            refine gop (y_assign (v := .bool _) rfl) rfl rfl rfl ?_
            refine gops_nil ?_
            refine hN19 _ _ ?_
            refine gT [box b1 _] rfl ?_
            refine gfrom [(1, .pointer _), (3, .bool _), (4, .bool _), (66, .bool _)] ⟨rfl, rfl, rfl, rfl, trivial⟩ fun σ => ?_
            refine gcond (b := _) rfl (fun hc66 => ?_) (fun hc66 => ?_)
            · 
              replace hc66 := of_decide_eq_true hc66
              refine gseq fun N20 hN20 => ?_
              refine greg ?_
              refine gop (y_assign (v := .int _ _) rfl) rfl rfl rfl ?_
              refine gops_nil ?_
              refine hN20 _ _ ?_
              refine gfrom [(2, .int _ _)] ⟨rfl, trivial⟩ fun σ => ?_
              refine gret fun w1 hM => ?_
              refine ⟨_, res1 rfl (rt (v := .int _ _) rfl), ?_⟩
              exact ⟨by rw [formC, if_neg hK, if_neg hb, if_pos (show x.user < 0 ∨ 7 < x.user by omega)], hM.low⟩
            · 
              replace hc66 := of_decide_eq_false hc66
              have hU : ¬ (x.user < 0 ∨ 7 < x.user) := by omega
              refine gskip ?_
              refine hN6 _ _ ?_
              refine gfrom [(1, .pointer _), (3, .bool _), (4, .bool _)] ⟨rfl, rfl, rfl, trivial⟩ fun σ => ?_
              refine gseq fun N21 hN21 => ?_
              refine gseq fun N22 hN22 => ?_
              refine greg ?_
              refine gop (y_move (v := .bool _) rfl) rfl rfl rfl ?_
              refine gop (y_move (v := .bool _) rfl) rfl rfl rfl ?_
              refine gop_if (want := false) rfl rfl rfl rfl rfl rfl (fun hg76 => ?_) (fun hg76 => ?_)
              · 
                have hg76d := of_decide_eq_false hg76
                refine gop (y_bare (y_move (v := .bool _) rfl)) rfl rfl rfl ?_
                refine gop (y_pick_f (v := .bool _) rfl hg76 rfl) rfl rfl rfl ?_
                refine gops_nil ?_
                refine hN22 _ _ ?_
                refine gfrom [(1, .pointer _), (78, .bool _)] ⟨rfl, rfl, trivial⟩ fun σ => ?_
                refine gcond (b := _) rfl (fun hc78 => ?_) (fun hc78 => ?_)
                · 
                  replace hc78 := of_decide_eq_true hc78
                  have hO : x.kind = 1 ∨ x.kind = 2 := by omega
                  refine gseq fun N23 hN23 => ?_
                  refine gseq fun N24 hN24 => ?_
                  refine greg ?_
                  refine gop (y_fieldAddr_box fa29_4 rfl) rfl rfl rfl ?_
                  refine gop (y_load Tryz.isAgg9 rfl (cell_box 0 rfl rfl)) rfl rfl rfl ?_
                  refine gop (y_eqls rfl rfl) rfl rfl rfl ?_
                  refine gops_nil ?_
                  refine hN24 _ _ ?_
                  refine gfrom [(1, .pointer _), (81, .bool _)] ⟨rfl, rfl, trivial⟩ fun σ => ?_
                  refine gcond (b := _) rfl (fun hc81 => ?_) (fun hc81 => ?_)
                  · 
                    have hE : isEmptyS x.text = true := hc81
                    refine gseq fun N25 hN25 => ?_
                    refine greg ?_
                    refine gop (y_assign (v := .int _ _) rfl) rfl rfl rfl ?_
                    refine gops_nil ?_
                    refine hN25 _ _ ?_
                    refine gfrom [(2, .int _ _)] ⟨rfl, trivial⟩ fun σ => ?_
                    refine gret fun w1 hM => ?_
                    refine ⟨_, res1 rfl (rt (v := .int _ _) rfl), ?_⟩
                    exact ⟨by rw [formC, if_neg hK, if_neg hb, if_neg hU, if_pos hO, if_pos hE], hM.low⟩
                  · 
                    have hE : ¬ isEmptyS x.text = true := Bool.eq_false_iff.1 hc81
                    refine gskip ?_
                    refine hN23 _ _ ?_
                    refine gfrom [(1, .pointer _)] ⟨rfl, trivial⟩ fun σ => ?_
                    refine gseq fun N26 hN26 => ?_
                    refine greg ?_
                    refine gop (y_fieldAddr_box fa29_4 rfl) rfl rfl rfl ?_
                    refine gop (y_load Tryz.isAgg9 rfl (cell_box 0 rfl rfl)) rfl rfl rfl ?_
                    refine gop_lit (vs := [.string _]) (cells := #[_]) Tryz.underlying22 Tryz.sizeOf9 Tryz.zeroValue9 rfl (by decide) (by decide) rfl rfl rfl rfl (fun b84 hb84 => ?_)
                    refine gop_pure (e_call (vs := [.slice (some _) _ _]) Tryz.func58 rfl (by kernel_rfl) rfl) (fun w hM => linesValidate_any w _ _ [x.text] (Rdl.mono (Rdl.of_box 1 (f := strCells) (fun _ => rfl) hM rfl rfl) (Nat.zero_le _)) (by simp [maxLen])) rfl rfl rfl ?_
                    refine gop (y_field (cs := #[_, _]) rfl (fd33_0 _ _)) rfl rfl rfl ?_
                    refine gop (y_assign (v := .int _ _) rfl) rfl rfl rfl ?_
                    refine gops_nil ?_
                    refine hN26 _ _ ?_
                    refine gT [box b1 _, box b84 _] rfl ?_
                    refine gfrom [(2, .int _ _)] ⟨rfl, trivial⟩ fun σ => ?_
                    refine gret fun w1 hM => ?_
                    refine ⟨_, res1 rfl (rt (v := .int _ _) rfl), ?_⟩
                    exact ⟨by rw [linesF_one, formC, if_neg hK, if_neg hb, if_neg hU, if_pos hO, if_neg hE], hM.low⟩
                · 
                  replace hc78 := of_decide_eq_false hc78
                  have hO : ¬ (x.kind = 1 ∨ x.kind = 2) := by omega
                  refine gskip ?_
                  refine hN21 _ _ ?_
                  refine gfrom [] trivial fun σ => ?_
                  refine gseq fun N27 hN27 => ?_
                  refine greg ?_
                  refine gop (y_assign (v := .int _ _) rfl) rfl rfl rfl ?_
                  refine gops_nil ?_
                  refine hN27 _ _ ?_
                  refine gfrom [(2, .int _ _)] ⟨rfl, trivial⟩ fun σ => ?_
                  refine gret fun w1 hM => ?_
                  refine ⟨_, res1 rfl (rt (v := .int _ _) rfl), ?_⟩
                  exact ⟨by rw [formC, if_neg hK, if_neg hb, if_neg hU, if_neg hO], hM.low⟩
              · 
                have hg76d := of_decide_eq_true hg76
                refine gop (y_pick_t (v := .bool _) rfl hg76 rfl) rfl rfl rfl ?_
                refine gops_nil ?_
                refine hN22 _ _ ?_
                refine gfrom [(1, .pointer _), (78, .bool _)] ⟨rfl, rfl, trivial⟩ fun σ => ?_
                refine gcond (b := _) rfl (fun hc78 => ?_) (fun hc78 => ?_)
                · 
                  have hO : x.kind = 1 ∨ x.kind = 2 := by omega
                  refine gseq fun N28 hN28 => ?_
                  refine gseq fun N29 hN29 => ?_
                  refine greg ?_
                  refine gop (y_fieldAddr_box fa29_4 rfl) rfl rfl rfl ?_
                  refine gop (y_load Tryz.isAgg9 rfl (cell_box 0 rfl rfl)) rfl rfl rfl ?_
                  refine gop (y_eqls rfl rfl) rfl rfl rfl ?_
                  refine gops_nil ?_
                  refine hN29 _ _ ?_
                  refine gfrom [(1, .pointer _), (81, .bool _)] ⟨rfl, rfl, trivial⟩ fun σ => ?_
                  refine gcond (b := _) rfl (fun hc81 => ?_) (fun hc81 => ?_)
                  · 
                    have hE : isEmptyS x.text = true := hc81
                    refine gseq fun N30 hN30 => ?_
                    refine greg ?_
                    refine gop (y_assign (v := .int _ _) rfl) rfl rfl rfl ?_
                    refine gops_nil ?_
                    refine hN30 _ _ ?_
                    refine gfrom [(2, .int _ _)] ⟨rfl, trivial⟩ fun σ => ?_
                    refine gret fun w1 hM => ?_
                    refine ⟨_, res1 rfl (rt (v := .int _ _) rfl), ?_⟩
                    exact ⟨by rw [formC, if_neg hK, if_neg hb, if_neg hU, if_pos hO, if_pos hE], hM.low⟩
                  · 
                    have hE : ¬ isEmptyS x.text = true := Bool.eq_false_iff.1 hc81
                    refine gskip ?_
                    refine hN28 _ _ ?_
                    refine gfrom [(1, .pointer _)] ⟨rfl, trivial⟩ fun σ => ?_
                    refine gseq fun N31 hN31 => ?_
                    refine greg ?_
                    refine gop (y_fieldAddr_box fa29_4 rfl) rfl rfl rfl ?_
                    refine gop (y_load Tryz.isAgg9 rfl (cell_box 0 rfl rfl)) rfl rfl rfl ?_
                    refine gop_lit (vs := [.string _]) (cells := #[_]) Tryz.underlying22 Tryz.sizeOf9 Tryz.zeroValue9 rfl (by decide) (by decide) rfl rfl rfl rfl (fun b84 hb84 => ?_)
                    refine gop_pure (e_call (vs := [.slice (some _) _ _]) Tryz.func58 rfl (by kernel_rfl) rfl) (fun w hM => linesValidate_any w _ _ [x.text] (Rdl.mono (Rdl.of_box 1 (f := strCells) (fun _ => rfl) hM rfl rfl) (Nat.zero_le _)) (by simp [maxLen])) rfl rfl rfl ?_
                    refine gop (y_field (cs := #[_, _]) rfl (fd33_0 _ _)) rfl rfl rfl ?_
                    refine gop (y_assign (v := .int _ _) rfl) rfl rfl rfl ?_
                    refine gops_nil ?_
                    refine hN31 _ _ ?_
                    refine gT [box b1 _, box b84 _] rfl ?_
                    refine gfrom [(2, .int _ _)] ⟨rfl, trivial⟩ fun σ => ?_
                    refine gret fun w1 hM => ?_
                    refine ⟨_, res1 rfl (rt (v := .int _ _) rfl), ?_⟩
                    exact ⟨by rw [linesF_one, formC, if_neg hK, if_neg hb, if_neg hU, if_pos hO, if_neg hE], hM.low⟩
                · 
                  cases hc78
          · 
            have hg70d := of_decide_eq_true hg70
            refine gop_off rfl rfl rfl rfl hg70 rfl rfl ?_
            refine gop_off rfl rfl rfl rfl hg70 rfl rfl ?_
            refine gop (y_pick_t (v := .bool _) rfl hg70 rfl) rfl rfl rfl ?_
            refine gop (y_assign (v := .bool _) rfl) rfl rfl rfl ?_
            refine gops_nil ?_
            refine hN19 _ _ ?_
            refine gT [box b1 _] rfl ?_
            refine gfrom [(1, .pointer _), (3, .bool _), (4, .bool _), (66, .bool _)] ⟨rfl, rfl, rfl, rfl, trivial⟩ fun σ => ?_
            refine gcond (b := _) rfl (fun hc66 => ?_) (fun hc66 => ?_)
            · 
              refine gseq fun N32 hN32 => ?_
              refine greg ?_
              refine gop (y_assign (v := .int _ _) rfl) rfl rfl rfl ?_
              refine gops_nil ?_
              refine hN32 _ _ ?_
              refine gfrom [(2, .int _ _)] ⟨rfl, trivial⟩ fun σ => ?_
              refine gret fun w1 hM => ?_
              refine ⟨_, res1 rfl (rt (v := .int _ _) rfl), ?_⟩
              exact ⟨by rw [formC, if_neg hK, if_neg hb, if_pos (show x.user < 0 ∨ 7 < x.user by omega)], hM.low⟩
            · 
              cases hc66
  · 
    have hg10d := of_decide_eq_true hg10
    refine gop_off rfl rfl rfl rfl hg10 rfl rfl ?_
    refine gop_off rfl rfl rfl rfl hg10 rfl rfl ?_
    refine gop (y_pick_t (v := .bool _) rfl hg10 rfl) rfl rfl rfl ?_
    refine gops_nil ?_
    refine hN3 _ _ ?_
    refine gfrom [(1, .pointer _), (14, .bool _)] ⟨rfl, rfl, trivial⟩ fun σ => ?_
    refine gcond (b := _) rfl (fun hc14 => ?_) (fun hc14 => ?_)
    · 
      refine gseq fun N33 hN33 => ?_
      refine greg ?_
      refine gop (y_assign (v := .int _ _) rfl) rfl rfl rfl ?_
      refine gops_nil ?_
      refine hN33 _ _ ?_
      refine gfrom [(2, .int _ _)] ⟨rfl, trivial⟩ fun σ => ?_
      refine gret fun w1 hM => ?_
      refine ⟨_, res1 rfl (rt (v := .int _ _) rfl), ?_⟩
      exact ⟨by rw [formC, if_pos (show x.kind < 1 ∨ 4 < x.kind by omega)], hM.low⟩
    · 
      cases hc14
set_option maxHeartbeats 1000000 in
theorem thread_any (w : World) (br n hc : Nat) (hA : Option Addr) (t : Int) (hcell : w.cell? ⟨br, 1, none⟩ = some (.slice hA n hc)) (hsome : 0 < n → ∃ ad, hA = some ad) : Calls Tryz.prog 60 #[.pointer (some ⟨br, 0, none⟩), .int .i64 t] w fun e w' => e = .returned (.pointer (thrP hA n t)) ∧ Below w.heap.size w w' := by
  refine gcalls Tryz.func60 rfl Tryz.ntmps60 (Nat.le_of_ble_eq_true rfl) ?_
  refine gfrom [(0, .pointer (some ⟨br, 0, none⟩)), (1, .int _ _)] ⟨rfl, rfl, trivial⟩ fun σ => ?_
  refine gseq fun N1 hN1 => ?_
  refine greg ?_
  refine gop (y_assign (v := .pointer _) rfl) rfl rfl rfl ?_
  refine gops_nil ?_
  refine hN1 _ _ ?_
  refine gfrom [(0, .pointer (some ⟨br, 0, none⟩)), (1, .int _ _)] ⟨rfl, rfl, trivial⟩ fun σ => ?_
  refine gseq fun N2 hN2 => ?_
  refine gseq fun N3 hN3 => ?_
  refine greg ?_
  refine gop (y_move (v := .int _ _) rfl) rfl rfl rfl ?_
  refine gop (y_lss rfl rfl) rfl rfl rfl ?_
  refine gop (y_move (v := .bool _) rfl) rfl rfl rfl ?_
  refine gop_if (want := false) rfl rfl rfl rfl rfl rfl (fun hg7 => ?_) (fun hg7 => ?_)
  · 
    have hg7d := of_decide_eq_false hg7
    refine gop (y_bare (y_move (v := .int _ _) rfl)) rfl rfl rfl ?_
    refine gop_on rfl rfl rfl rfl hg7 ?_
    refine gop (y_bare (y_move (v := .pointer (some ⟨br, 0, none⟩)) rfl)) rfl rfl rfl ?_
    refine gop_on rfl rfl rfl rfl hg7 ?_
    refine gop (y_bare (y_nilCheck rfl)) rfl rfl rfl ?_
    refine gop_on rfl rfl rfl rfl hg7 ?_
    refine gop (y_bare (y_fieldAddr_box fa98_1 rfl)) rfl rfl rfl ?_
    refine gop_on rfl rfl rfl rfl hg7 ?_
    refine gop (y_bare (y_load Tryz.isAgg31 rfl (cell_base hcell))) rfl rfl rfl ?_
    refine gop_on rfl rfl rfl rfl hg7 ?_
    refine gop (y_bare (y_len Tryz.underlying31 rfl)) rfl rfl rfl ?_
    refine gop_on rfl rfl rfl rfl hg7 ?_
    refine gop (y_bare (y_geq rfl rfl)) rfl rfl rfl ?_
    refine gop (y_pick_f (v := .bool _) rfl hg7 rfl) rfl rfl rfl ?_
    refine gops_nil ?_
    refine hN3 _ _ ?_
    refine gfrom [(0, .pointer (some ⟨br, 0, none⟩)), (1, .int _ _), (15, .bool _)] ⟨rfl, rfl, rfl, trivial⟩ fun σ => ?_
    refine gcond (b := _) rfl (fun hc15 => ?_) (fun hc15 => ?_)
    · 
      replace hc15 := of_decide_eq_true hc15
      have hT : thrP hA n t = none := by rw [thrP, if_neg (by omega)]
      refine gseq fun N4 hN4 => ?_
      refine greg ?_
      refine gop (y_assign (v := .pointer _) rfl) rfl rfl rfl ?_
      refine gops_nil ?_
      refine hN4 _ _ ?_
      refine gfrom [(4, .pointer _)] ⟨rfl, trivial⟩ fun σ => ?_
      refine gret fun w1 hM => ?_
      refine ⟨_, res1 rfl (rt (v := .pointer _) rfl), ?_⟩
      exact ⟨by rw [hT], hM.low⟩
    · 
      replace hc15 := of_decide_eq_false hc15
      obtain ⟨ad, rfl⟩ := hsome (by omega)
      have hT : thrP (some ad) n t = some (ad.add (t.toNat * 5)) := by rw [thrP, if_pos (by omega)]; rfl
      refine gskip ?_
      refine hN2 _ _ ?_
      refine gfrom [(0, .pointer (some ⟨br, 0, none⟩)), (1, .int _ _)] ⟨rfl, rfl, trivial⟩ fun σ => ?_
      refine gseq fun N5 hN5 => ?_
      refine greg ?_
      refine gop (y_move (v := .pointer (some ⟨br, 0, none⟩)) rfl) rfl rfl rfl ?_
      refine gop (y_nilCheck rfl) rfl rfl rfl ?_
      refine gop (y_fieldAddr_box fa98_1 rfl) rfl rfl rfl ?_
      refine gop (y_load Tryz.isAgg31 rfl (cell_base hcell)) rfl rfl rfl ?_
      refine gop (y_move (v := .int _ _) rfl) rfl rfl rfl ?_
      refine gop (y_indexAddr Tryz.underlying31 Tryz.sizeOf39 rfl rfl rfl (by omega) (by omega)) rfl rfl rfl ?_
      refine gop (y_assign (v := .pointer _) rfl) rfl rfl rfl ?_
      refine gops_nil ?_
      refine hN5 _ _ ?_
      refine gfrom [(4, .pointer _)] ⟨rfl, trivial⟩ fun σ => ?_
      refine gret fun w1 hM => ?_
      refine ⟨_, res1 rfl (rt (v := .pointer _) rfl), ?_⟩
      exact ⟨by rw [hT], hM.low⟩
  · 
    have hg7d := of_decide_eq_true hg7
    refine gop_off rfl rfl rfl rfl hg7 rfl rfl ?_
    refine gop_off rfl rfl rfl rfl hg7 rfl rfl ?_
    refine gop_off rfl rfl rfl rfl hg7 rfl rfl ?_
    refine gop_off rfl rfl rfl rfl hg7 rfl rfl ?_
    refine gop_off rfl rfl rfl rfl hg7 rfl rfl ?_
    refine gop_off rfl rfl rfl rfl hg7 rfl rfl ?_
    refine gop (y_pick_t (v := .bool _) rfl hg7 rfl) rfl rfl rfl ?_
    refine gops_nil ?_
    refine hN3 _ _ ?_
    refine gfrom [(0, .pointer (some ⟨br, 0, none⟩)), (1, .int _ _), (15, .bool _)] ⟨rfl, rfl, rfl, trivial⟩ fun σ => ?_
    refine gcond (b := _) rfl (fun hc15 => ?_) (fun hc15 => ?_)
    · 
      have hT : thrP hA n t = none := by rw [thrP, if_neg (by omega)]
      refine gseq fun N6 hN6 => ?_
      refine greg ?_
      refine gop (y_assign (v := .pointer _) rfl) rfl rfl rfl ?_
      refine gops_nil ?_
      refine hN6 _ _ ?_
      refine gfrom [(4, .pointer _)] ⟨rfl, trivial⟩ fun σ => ?_
      refine gret fun w1 hM => ?_
      refine ⟨_, res1 rfl (rt (v := .pointer _) rfl), ?_⟩
      exact ⟨by rw [hT], hM.low⟩
    · 
      cases hc15
end Go.Proofs.YtbkameioedmlkaaGreatDoor
namespace Go.Proofs.YtbkameioedmlkaaGreatDoor
open Go.RowKit Go.Cf
set_option maxRecDepth 10000
theorem fa98_0 (a : Addr) (w : World) : (Instr.fieldAt 98 (.pointer (some a)) 0).run Tryz.prog w = .ok (.pointer (some (a.add 0))) w := by kernel_rfl
theorem fa39_3 (a : Addr) (w : World) : (Instr.fieldAt 39 (.pointer (some a)) 3).run Tryz.prog w = .ok (.pointer (some (a.add 3))) w := by kernel_rfl
theorem fa39_1 (a : Addr) (w : World) : (Instr.fieldAt 39 (.pointer (some a)) 1).run Tryz.prog w = .ok (.pointer (some (a.add 1))) w := by kernel_rfl
theorem bd39_0_1_2 (x1 : Int) (x2 : Int) (x3 : Int) : Tryz.prog.built 39 [(0, .int .i64 x1), (1, .int .i64 x2), (2, .int .i64 x3)] = some #[.int .i64 x1, .int .i64 x2, .int .i64 x3, .bool false, .bool false] := by kernel_rfl
theorem el39 : Elem Tryz.prog 39 5 32 := elem_of (z := .agg #[.int .i64 0, .int .i64 0, .int .i64 0, .bool false, .bool false]) (by kernel_rfl) rfl (by decide)
theorem fa39_2 (a : Addr) (w : World) : (Instr.fieldAt 39 (.pointer (some a)) 2).run Tryz.prog w = .ok (.pointer (some (a.add 2))) w := by kernel_rfl
theorem fa39_4 (a : Addr) (w : World) : (Instr.fieldAt 39 (.pointer (some a)) 4).run Tryz.prog w = .ok (.pointer (some (a.add 4))) w := by kernel_rfl
theorem fa39_0 (a : Addr) (w : World) : (Instr.fieldAt 39 (.pointer (some a)) 0).run Tryz.prog w = .ok (.pointer (some (a.add 0))) w := by kernel_rfl
set_option maxHeartbeats 4000000 in
theorem patch_any (w0 w : World) (br tc hc : Nat) (tA hA : Option Addr) (text : List ByteArray) (l : List Thr) (fr : Reg) (hM0 : Mem w0 [box br (.cells #[.slice tA (text).length tc, .slice hA (l).length hc] 98), rowl thrCells w0.heap.size 39 5 (.slice hA l.length hc) (l), fr] w) (htx : ∀ w1, fr.ok w1 → Rdl w1 w0.heap.size 1 strCells tA text) (htb : SB tA text.length tc 16) (A : Option Addr) (c : Nat) (hs : List HunkC) (hp : PatR w0 0 A c hs) (hi : RI (l, text) 100) :
    Calls Tryz.prog 61 #[.pointer (some ⟨br, 0, none⟩), .agg #[.slice A hs.length c]] w fun e w' => ∃ tA' tc' hA' hc' G, e = .returned (.int .i64 (patchT (l, text) (pls hs)).1) ∧ SB tA' (patchT (l, text) (pls hs)).2.2.length tc' 16 ∧ ((tA' = tA ∧ (patchT (l, text) (pls hs)).2.2 = text) ∨ ∀ w1, (∀ r ∈ G, r.ok w1) → Rdl w1 w0.heap.size 1 strCells tA' (patchT (l, text) (pls hs)).2.2) ∧ Mem w0 (box br (.cells #[.slice tA' ((patchT (l, text) (pls hs)).2.2).length tc', .slice hA' ((patchT (l, text) (pls hs)).2.1).length hc'] 98) :: rowl thrCells w0.heap.size 39 5 (.slice hA' (patchT (l, text) (pls hs)).2.1.length hc') ((patchT (l, text) (pls hs)).2.1) :: fr :: G) w' := by
  have hi1 := hi.lo
  have hi2 := hi.hi
  have hi3 := hi.few
  simp only at hi1 hi2 hi3
  refine gcallsT Tryz.func61 rfl Tryz.ntmps61 (Nat.le_of_ble_eq_true rfl) hM0 ?_
  refine gfrom [(0, .pointer _), (1, .agg #[_])] ⟨rfl, rfl, trivial⟩ fun σ => ?_
  refine gseq fun N1 hN1 => ?_
  refine greg ?_
  refine gop_box (v := .agg #[_]) (cs := #[_]) rfl rfl rfl (fun b3 hb3 => ?_)
  refine gop (y_assign (v := .int _ _) rfl) rfl rfl rfl ?_
  refine gops_nil ?_
  refine hN1 _ _ ?_
  refine gT [box br _, rowl _ _ _ _ _ _, fr, box b3 _] rfl ?_
  refine gfrom [(0, .pointer _), (3, .pointer _)] ⟨rfl, rfl, trivial⟩ fun σ => ?_
  refine gseq fun N2 hN2 => ?_
  refine greg_e0 [11] (by kernel_rfl) ?_
  refine ge_take 0 (TK := [box br _, rowl _ _ _ _ _ _, fr, box b3 _]) rfl (by kernel_rfl) (by kernel_rfl) (by kernel_rfl) #[false, true, true, true, true, false, false, false, false, true, false, false] (by kernel_rfl) rfl (y_loads (cs := [_]) Tryz.isAgg27 Tryz.sizeOf27 rfl rfl (cells_box 3 rfl)) rfl rfl rfl (weak_refl) (listed' := #[true, false, false, false, false, false, false, false, false, false, false, false]) rfl ?_
  refine ge_take 1 (TK := [box br _, rowl _ _ _ _ _ _, fr, box b3 _]) rfl (by kernel_rfl) (by kernel_rfl) (by kernel_rfl) #[true, false, false, false, false, false, false, false, false, true, false, false] (by kernel_rfl) rfl (y_move (v := .pointer _) rfl) rfl rfl rfl (weak_refl) (listed' := #[true, true, false, false, false, false, false, false, false, false, false, false]) rfl ?_
  refine ge_take 2 (TK := [box br _, rowl _ _ _ _ _ _, fr, box b3 _]) rfl (by kernel_rfl) (by kernel_rfl) (by kernel_rfl) #[true, true, false, false, false, false, false, false, false, true, false, false] (by kernel_rfl) rfl (y_nilCheck rfl) rfl rfl rfl (weak_refl) (listed' := #[true, true, true, false, false, false, false, false, false, false, false, false]) rfl ?_
  refine ge_take 3 (TK := [box br _, rowl _ _ _ _ _ _, fr, box b3 _]) rfl (by kernel_rfl) (by kernel_rfl) (by kernel_rfl) #[true, true, true, false, false, false, false, false, false, true, false, false] (by kernel_rfl) rfl (y_fieldAddr_box fa98_0 rfl) rfl rfl rfl (weak_refl) (listed' := #[true, true, true, true, false, false, false, false, false, false, false, false]) rfl ?_
  refine ge_take 4 (TK := [box br _, rowl _ _ _ _ _ _, fr, box b3 _]) rfl (by kernel_rfl) (by kernel_rfl) (by kernel_rfl) #[true, true, true, true, false, false, false, false, false, true, false, false] (by kernel_rfl) rfl (y_load Tryz.isAgg22 rfl (cell_box 0 rfl rfl)) rfl rfl rfl (weak_refl) (listed' := #[true, true, true, true, true, false, false, false, false, false, false, false]) rfl ?_
  refine ge_two 5 9 (by kernel_rfl) ?_ ?_
  · 
    refine ge_op 5 (k' := 0) (listed' := #[true, true, true, true, true, true, false, false, false, false, false, false]) rfl rfl rfl ?_
    refine gop_got (fun v T' => ∃ lo v1, w0.heap.size ≤ lo ∧ v = .tuple #[v1, fv (applyF (pls hs) text)] ∧ T' = [rowl strCells lo 9 1 v1 (applyR (pls hs) text)]) (e_call (vs := [.agg #[_], .slice _ _ _]) Tryz.func91 rfl (by kernel_rfl) rfl) (fun w hM => (apply_any w _ _ hs (PatR.lasts.base hp hM) _ _ text ((htx w (hM.ok _ (List.mem_of_getElem? (i := 2) rfl))).mono (Nat.zero_le _)) htb).mono fun _ _ ⟨v, T1, h1, h2, h3⟩ => ⟨_, T1, h1, ⟨_, v, hM.low.size, rfl, h2⟩, h3⟩) rfl rfl rfl ?_
    rintro _ _ ⟨lo17, v17, hlo17, rfl, rfl⟩
    refine gops_fact (fun w hM => row_form (hM.ok _ (List.mem_of_getElem? (i := 4) rfl))) ?_
    rintro ⟨A17, c17, rfl, hc17, hm17, hn17⟩
    refine gops_nil ?_
    refine ge_fin (TK := [box br _, rowl _ _ _ _ _ _, fr, box b3 _]) rfl (weak_take (T' := [box br _, rowl _ _ _ _ _ _, fr, box b3 _]) rfl) ?_
    refine ge_take 6 (TK := [box br _, rowl _ _ _ _ _ _, fr, box b3 _]) rfl (by kernel_rfl) (by kernel_rfl) (by kernel_rfl) #[true, true, true, true, true, true, false, false, false, true, false, false] (by kernel_rfl) rfl (y_move (v := .tuple #[.slice A17 _ c17, .agg #[_, _]]) rfl) rfl rfl rfl (weak_take (T' := [box br _, rowl _ _ _ _ _ _, fr, box b3 _]) rfl) (listed' := #[true, true, true, true, true, true, true, false, false, false, false, false]) rfl ?_
    refine ge_take 7 (TK := [box br _, rowl _ _ _ _ _ _, fr, box b3 _]) rfl (by kernel_rfl) (by kernel_rfl) (by kernel_rfl) #[true, true, true, true, true, true, true, false, true, true, false, false] (by kernel_rfl) rfl (y_extract (v := .slice _ _ _) rfl rfl) rfl rfl rfl (weak_take (T' := [box br _, rowl _ _ _ _ _ _, fr, box b3 _]) rfl) (listed' := #[true, true, true, true, true, true, true, true, false, false, false, false]) rfl ?_
    refine ge_take 8 (TK := [box br _, rowl _ _ _ _ _ _, fr, box b3 _]) rfl (by kernel_rfl) (by kernel_rfl) (by kernel_rfl) #[true, true, true, true, true, true, true, true, false, true, true, false] (by kernel_rfl) rfl (y_extract (v := .agg #[_, _]) rfl rfl) rfl rfl rfl (weak_take (T' := [box br _, rowl _ _ _ _ _ _, fr, box b3 _]) rfl) (listed' := #[true, true, true, true, true, true, true, true, true, false, false, false]) rfl ?_
    refine ge_one 9 (k' := 0) (listed' := #[true, true, true, true, true, true, true, true, true, true, false, false]) (by kernel_rfl) rfl rfl rfl ?_
    refine gop_alloc (cs := #[.int .i64 0, .int .i64 0]) Tryz.zeroValue33 rfl rfl (fun b6 hb6 => ?_)
    refine gops_nil ?_
    refine ge_fin (TK := [box br _, rowl _ _ _ _ _ _, fr, box b3 _]) rfl (weak_take (T' := [box br _, rowl _ _ _ _ _ _, fr, box b3 _]) rfl) ?_
    refine ge_take 10 (TK := [box br _, rowl _ _ _ _ _ _, fr, box b3 _]) rfl (by kernel_rfl) (by kernel_rfl) (by kernel_rfl) #[true, true, true, true, true, true, true, true, true, true, false, false] (by kernel_rfl) rfl (y_assign (v := .slice _ _ _) rfl) rfl rfl rfl (weak_take (T' := [box br _, rowl _ _ _ _ _ _, fr, box b3 _]) rfl) (listed' := #[true, true, true, true, true, true, true, true, true, true, true, false]) rfl ?_
    refine ge_one 11 (k' := 1) (listed' := #[true, true, true, true, true, true, true, true, true, true, true, true]) (by kernel_rfl) rfl rfl rfl ?_
    refine gop_store 5 (v := .agg #[_, _]) (cs' := #[_, _]) rfl rfl Tryz.sizeOf33 rfl rfl rfl rfl (Nat.le_of_ble_eq_true rfl) rfl rfl ?_
    refine gops_nil ?_
    refine ge_fin (TK := []) rfl (weak_nil) ?_
    refine ge_done (by kernel_rfl) ?_
    refine hN2 _ _ ?_
    refine gT [box br _, rowl _ _ _ _ _ _, fr, box b3 _, rowl _ _ _ _ _ _, box b6 _] rfl ?_
    refine gfrom [(0, .pointer _), (3, .pointer _), (5, .slice _ _ _), (6, .pointer _)] ⟨rfl, rfl, rfl, rfl, trivial⟩ fun σ => ?_
    refine gseq fun N3 hN3 => ?_
    refine gseq fun N4 hN4 => ?_
    refine greg ?_
    refine gop (y_loads (cs := [_, _]) Tryz.isAgg33 Tryz.sizeOf33 rfl rfl (cells_box 5 rfl)) rfl rfl rfl ?_
    refine gop (y_build (vs := []) (cells := #[.int .i64 0, .int .i64 0]) rfl bd33_) rfl rfl rfl ?_
    refine gop (y_bin (vx := .agg #[_, _]) (vy := .agg #[_, _]) rfl rfl (fun w => eg33 _ _ _ _ _ w) (fun w => ne33 _ _ _ _ w)) rfl rfl rfl ?_
    refine gops_nil ?_
    refine hN4 _ _ ?_
    refine gfrom [(0, .pointer _), (3, .pointer _), (5, .slice _ _ _), (6, .pointer _), (22, .bool _)] ⟨rfl, rfl, rfl, rfl, rfl, trivial⟩ fun σ => ?_
    refine gcond (b := _) rfl (fun hc22 => ?_) (fun hc22 => ?_)
    · 
      replace hc22 := fault_ne.1 hc22
      have hP : patchT (l, text) (pls hs) = ((applyF (pls hs) text).code, (l, text)) := by rw [patchT, if_pos hc22]
      refine gseq fun N5 hN5 => ?_
      refine greg ?_
      refine gop (y_fieldAddr_box fa33_0 rfl) rfl rfl rfl ?_
      refine gop (y_load Tryz.isAgg3 rfl (cell_box 5 rfl rfl)) rfl rfl rfl ?_
      refine gop (y_assign (v := .int _ _) rfl) rfl rfl rfl ?_
      refine gops_nil ?_
      refine hN5 _ _ ?_
      refine gfrom [(4, .int _ _)] ⟨rfl, trivial⟩ fun σ => ?_
      refine gret fun w1 hM => ?_
      refine ⟨_, res1 rfl (rt (v := .int _ _) rfl), ?_⟩
      rw [hP]
      exact ⟨tA, tc, hA, hc, _, rfl, htb, .inl ⟨rfl, rfl⟩, hM⟩
    · 
      replace hc22 := fault_eq.1 hc22
      obtain ⟨_, happ, hAR⟩ := applyF_code (hs := pls hs) (text := text) (by rw [hc22])
      have hv := happ.pv
      have hP : patchT (l, text) (pls hs) = (0, (l.map (followT (pls hs)), applyR (pls hs) text)) := by rw [hAR, patchT, if_neg (by simp [hc22])]
      refine gskip ?_
      refine hN3 _ _ ?_
      refine gfrom [(0, .pointer _), (3, .pointer _), (5, .slice _ _ _)] ⟨rfl, rfl, rfl, trivial⟩ fun σ => ?_
      refine gseq fun N6 hN6 => ?_
      refine greg ?_
      refine gop (y_move (v := .pointer _) rfl) rfl rfl rfl ?_
      refine gop (y_move (v := .slice _ _ _) rfl) rfl rfl rfl ?_
      refine gop (y_nilCheck rfl) rfl rfl rfl ?_
      refine gop (y_fieldAddr_box fa98_0 rfl) rfl rfl rfl ?_
      refine gop_store 0 (v := .slice _ _ _) (cs' := #[_, _]) rfl rfl Tryz.sizeOf22 rfl rfl rfl rfl (Nat.le_of_ble_eq_true rfl) rfl rfl ?_
      refine gops_nil ?_
      refine hN6 _ _ ?_
      refine gT [box br _, rowl _ _ _ _ _ _, fr, box b3 _, rowl _ _ _ _ _ _, box b6 _] rfl ?_
      refine gfrom [(0, .pointer _), (3, .pointer _)] ⟨rfl, rfl, trivial⟩ fun σ => ?_
      refine gseq fun N7 hN7 => ?_
      refine gseq fun N8 hN8 => ?_
      refine greg ?_
      refine gop (y_move (v := .pointer _) rfl) rfl rfl rfl ?_
      refine gop (y_nilCheck rfl) rfl rfl rfl ?_
      refine gop (y_fieldAddr_box fa98_1 rfl) rfl rfl rfl ?_
      refine gop (y_load Tryz.isAgg31 rfl (cell_box 0 rfl rfl)) rfl rfl rfl ?_
      refine gop (y_len Tryz.underlying31 rfl) rfl rfl rfl ?_
      refine gop (y_move (v := .int _ _) rfl) rfl rfl rfl ?_
      refine gops_nil ?_
      refine hN8 _ _ ?_
      refine gfrom [(0, .pointer _), (3, .pointer _), (33, .int _ _), (34, .int _ _)] ⟨rfl, rfl, rfl, rfl, trivial⟩ fun σ => ?_
      refine gblock ?_
      refine gfrom2 [(34, .int _ _)] [(0, .pointer _), (3, .pointer _), (33, .int _ _)] ⟨rfl, trivial⟩ ⟨rfl, rfl, rfl, trivial⟩ fun σ => ?_
      refine gloop2 (G := Nat) (fun k => k ≤ l.length) (fun k => l.length - k) (fun k => [(34, .int .i64 (k : Int))]) (fun k => [(1, rowl thrCells w0.heap.size 39 5 (.slice hA l.length hc) (flK (pls hs) l k))]) (0) ?h0 ⟨rfl, trivial⟩ ⟨rfl, rfl, rfl, trivial⟩ rfl ?round
      case h0 => exact Nat.zero_le _
      case round =>
        intro k hφ σ
        have hk : k ≤ l.length := hφ
        refine gT [box br _, rowl _ _ _ _ _ _, fr, box b3 _, rowl _ _ _ _ _ _, box b6 _] rfl ?_
        refine gseq fun N9 hN9 => ?_
        refine greg ?_
        refine gop (y_lss rfl rfl) rfl rfl rfl ?_
        refine gops_nil ?_
        refine hN9 _ _ ?_
        refine gfrom [(0, .pointer _), (3, .pointer _), (33, .int _ _), (34, .int _ _), (35, .bool _)] ⟨rfl, rfl, rfl, rfl, rfl, trivial⟩ fun σ => ?_
        refine gseq fun N10 hN10 => ?_
        refine gcond (b := _) rfl (fun hc35 => ?_) (fun hc35 => ?_)
        · 
          replace hc35 := of_decide_eq_true hc35
          have hk1 : k < l.length := by omega
          refine g_fact (fun w hM => own_some (hM.own 1 rfl) (by rw [flK_len _ _ hk]; omega)) ?_
          rintro ⟨rg, cg, hvg, -, -⟩
          simp only [Value.slice.injEq] at hvg
          obtain ⟨rfl, -, rfl⟩ := hvg
          have hl1 := hi1 _ (List.getElem_mem hk1)
          have hl2 := hi2 _ (List.getElem_mem hk1)
          refine gskip ?_
          refine hN10 _ _ ?_
          refine gfrom [(0, .pointer _), (3, .pointer _), (33, .int _ _), (34, .int _ _)] ⟨rfl, rfl, rfl, rfl, trivial⟩ fun σ => ?_
          refine gseq fun N11 hN11 => ?_
          refine gblock ?_
          refine gseq fun N12 hN12 => ?_
          refine greg ?_
          refine gop (y_move (v := .int _ _) rfl) rfl rfl rfl ?_
          refine gop (y_assign (v := .int _ _) rfl) rfl rfl rfl ?_
          refine gops_nil ?_
          refine hN12 _ _ ?_
          refine gfrom [(0, .pointer _), (3, .pointer _), (7, .int _ _), (33, .int _ _), (34, .int _ _)] ⟨rfl, rfl, rfl, rfl, rfl, trivial⟩ fun σ => ?_
          refine gseq fun N13 hN13 => ?_
          refine greg ?_
          refine gop (y_move (v := .pointer _) rfl) rfl rfl rfl ?_
          refine gop (y_nilCheck rfl) rfl rfl rfl ?_
          refine gop (y_fieldAddr_box fa98_1 rfl) rfl rfl rfl ?_
          refine gop (y_load Tryz.isAgg31 rfl (cell_box 0 rfl rfl)) rfl rfl rfl ?_
          refine gop (y_move (v := .int _ _) rfl) rfl rfl rfl ?_
          refine gop (y_indexAddr (m := k) Tryz.underlying31 Tryz.sizeOf39 rfl rfl (by omega) (by omega) (by omega)) rfl rfl rfl ?_
          refine gop (y_assign (v := .pointer _) rfl) rfl rfl rfl ?_
          refine gops_nil ?_
          refine hN13 _ _ ?_
          refine gfrom [(0, .pointer _), (3, .pointer _), (8, .pointer _), (33, .int _ _), (34, .int _ _)] ⟨rfl, rfl, rfl, rfl, rfl, trivial⟩ fun σ => ?_
          refine gseq fun N14 hN14 => ?_
          refine gseq fun N15 hN15 => ?_
          refine greg ?_
          refine gop (y_move (v := .pointer _) rfl) rfl rfl rfl ?_
          refine gop (y_nilCheck rfl) rfl rfl rfl ?_
          refine gop (y_fieldAddr_add fa39_3 rfl) rfl rfl rfl ?_
          refine gop (y_load Tryz.isAgg4 rfl (cells_rowl 1 (f := thrCells) (l := flK (pls hs) l k) rfl (flK_len _ _ hk).symm (fun _ => rfl) (flK_at hk1) 3 _ rfl)) rfl rfl rfl ?_
          refine gops_nil ?_
          refine hN15 _ _ ?_
          refine gfrom [(0, .pointer _), (3, .pointer _), (8, .pointer _), (33, .int _ _), (34, .int _ _), (46, .bool _)] ⟨rfl, rfl, rfl, rfl, rfl, rfl, trivial⟩ fun σ => ?_
          refine gcond (b := _) rfl (fun hc46 => ?_) (fun hc46 => ?_)
          · 
            have hft : followT (pls hs) l[k] = l[k] := followT_out hc46
            refine gexit ?_
            refine hN11 _ _ ?_
            refine gfrom [(0, .pointer _), (3, .pointer _), (33, .int _ _), (34, .int _ _)] ⟨rfl, rfl, rfl, rfl, trivial⟩ fun σ => ?_
            refine greg ?_
            refine gop (y_add rfl rfl ⟨by omega, by omega⟩) rfl rfl rfl ?_
            refine gop (y_move (v := .int _ _) rfl) rfl rfl rfl ?_
            refine gops_nil ?_
            rw [flK_same hk1 hft]
            refine gnext2 (k + 1) (by omega) (show k + 1 ≤ _ by omega) ⟨rfl, trivial⟩ ⟨rfl, rfl, rfl, trivial⟩ ⟨_, rfl⟩
          · 
            refine gskip ?_
            refine hN14 _ _ ?_
            refine gfrom [(0, .pointer _), (3, .pointer _), (8, .pointer _), (33, .int _ _), (34, .int _ _)] ⟨rfl, rfl, rfl, rfl, rfl, trivial⟩ fun σ => ?_
            refine gseq fun N16 hN16 => ?_
            refine greg_q (by kernel_rfl) (by kernel_rfl) ?_
            refine gq (y_loads (cs := [_]) Tryz.isAgg27 Tryz.sizeOf27 rfl rfl (cells_box 3 rfl)) rfl rfl rfl ?_
            refine gq (y_move (v := .pointer _) rfl) rfl rfl rfl ?_
            refine gq (y_nilCheck rfl) rfl rfl rfl ?_
            refine gq (y_fieldAddr_add fa39_1 rfl) rfl rfl rfl ?_
            refine gq (y_load Tryz.isAgg3 rfl (cells_rowl 1 (f := thrCells) (l := flK (pls hs) l k) rfl (flK_len _ _ hk).symm (fun _ => rfl) (flK_at hk1) 1 _ rfl)) rfl rfl rfl ?_
            refine gq_pure (e_call (vs := [.agg #[_], .int _ _]) Tryz.func33 rfl (by kernel_rfl) rfl) (fun w hM => place_any w _ _ hs (PatR.lasts.base hp hM) (by simpa using hv.len) hv.each l[k].line (by omega) (by omega)) rfl rfl rfl ?_
            refine gq (y_move (v := .tuple #[.int _ _, .bool _]) rfl) rfl rfl rfl ?_
            refine gq (y_extract (v := .int _ _) rfl rfl) rfl rfl rfl ?_
            refine gq (y_extract (v := .bool _) rfl rfl) rfl rfl rfl ?_
            refine gq (y_assign (v := .int _ _) rfl) rfl rfl rfl ?_
            refine gq (y_assign (v := .bool _) rfl) rfl rfl rfl ?_
            refine gqs_nil ?_
            refine hN16 _ _ ?_
            refine gfrom [(0, .pointer _), (3, .pointer _), (8, .pointer _), (9, .int _ _), (10, .bool _), (33, .int _ _), (34, .int _ _)] ⟨rfl, rfl, rfl, rfl, rfl, rfl, rfl, trivial⟩ fun σ => ?_
            refine gseq fun N17 hN17 => ?_
            refine greg ?_
            refine gop (y_move (v := .pointer _) rfl) rfl rfl rfl ?_
            refine gop (y_move (v := .bool _) rfl) rfl rfl rfl ?_
            refine gop (y_not rfl) rfl rfl rfl ?_
            refine gop (y_nilCheck rfl) rfl rfl rfl ?_
            refine gop (y_fieldAddr_add fa39_3 rfl) rfl rfl rfl ?_
            refine gop_store_row 1 (f := thrCells) (l := flK (pls hs) l k) (k := k) (o := 3) (v := .bool _) (a := l[k]) (a' := { l[k] with outdated := !(place (pls hs) l[k].line 0).2 }) (fun _ => rfl) rfl rfl rfl Tryz.sizeOf4 rfl rfl rfl rfl (flK_len _ _ hk).symm (flK_at hk1) (Nat.le_of_ble_eq_true rfl) rfl rfl ?_
            refine gops_nil ?_
            refine hN17 _ _ ?_
            refine gT [box br _, rowl _ _ _ _ _ _, fr, box b3 _, rowl _ _ _ _ _ _, box b6 _] rfl ?_
            refine gfrom [(0, .pointer _), (3, .pointer _), (8, .pointer _), (9, .int _ _), (10, .bool _), (33, .int _ _), (34, .int _ _)] ⟨rfl, rfl, rfl, rfl, rfl, rfl, rfl, trivial⟩ fun σ => ?_
            refine gseq fun N18 hN18 => ?_
            refine greg ?_
            refine gop (y_move (v := .bool _) rfl) rfl rfl rfl ?_
            refine gops_nil ?_
            refine hN18 _ _ ?_
            refine gfrom [(0, .pointer _), (3, .pointer _), (8, .pointer _), (9, .int _ _), (33, .int _ _), (34, .int _ _), (61, .bool _)] ⟨rfl, rfl, rfl, rfl, rfl, rfl, rfl, trivial⟩ fun σ => ?_
            refine gcond (b := _) rfl (fun hc61 => ?_) (fun hc61 => ?_)
            · 
              have hft : ({ l[k] with line := (place (pls hs) l[k].line 0).1, outdated := !(place (pls hs) l[k].line 0).2 } : Thr) = followT (pls hs) l[k] := by rw [followT, if_neg (by simp [hc46]), if_pos hc61, hc61]; rfl
              refine greg ?_
              refine gop (y_move (v := .pointer _) rfl) rfl rfl rfl ?_
              refine gop (y_move (v := .int _ _) rfl) rfl rfl rfl ?_
              refine gop (y_nilCheck rfl) rfl rfl rfl ?_
              refine gop (y_fieldAddr_add fa39_1 rfl) rfl rfl rfl ?_
              refine gop_store_row 1 (f := thrCells) (l := (flK (pls hs) l k).set k { l[k] with outdated := !(place (pls hs) l[k].line 0).2 }) (k := k) (o := 1) (v := .int _ _) (a := { l[k] with outdated := !(place (pls hs) l[k].line 0).2 }) (a' := { l[k] with line := (place (pls hs) l[k].line 0).1, outdated := !(place (pls hs) l[k].line 0).2 }) (fun _ => rfl) rfl rfl rfl Tryz.sizeOf3 rfl rfl rfl rfl (by rw [List.length_set, flK_len _ _ hk]) (by rw [List.getElem?_set_self (by rw [flK_len _ _ hk]; exact hk1)]) (Nat.le_of_ble_eq_true rfl) rfl rfl ?_
              refine gops_nil ?_
              refine hN11 _ _ ?_
              refine gT [box br _, rowl _ _ _ _ _ _, fr, box b3 _, rowl _ _ _ _ _ _, box b6 _] rfl ?_
              refine gfrom [(0, .pointer _), (3, .pointer _), (33, .int _ _), (34, .int _ _)] ⟨rfl, rfl, rfl, rfl, trivial⟩ fun σ => ?_
              refine greg ?_
              refine gop (y_add rfl rfl ⟨by omega, by omega⟩) rfl rfl rfl ?_
              refine gop (y_move (v := .int _ _) rfl) rfl rfl rfl ?_
              refine gops_nil ?_
              rw [List.set_set, flK_set hk1 hft]
              refine gnext2 (k + 1) (by omega) (show k + 1 ≤ _ by omega) ⟨rfl, trivial⟩ ⟨rfl, rfl, rfl, trivial⟩ ⟨_, rfl⟩
            · 
              have hft : ({ l[k] with outdated := !(place (pls hs) l[k].line 0).2 } : Thr) = followT (pls hs) l[k] := by rw [followT, if_neg (by simp [hc46]), if_neg (by simp [hc61]), hc61]; rfl
              refine gskip ?_
              refine hN11 _ _ ?_
              refine gfrom [(0, .pointer _), (3, .pointer _), (33, .int _ _), (34, .int _ _)] ⟨rfl, rfl, rfl, rfl, trivial⟩ fun σ => ?_
              refine greg ?_
              refine gop (y_add rfl rfl ⟨by omega, by omega⟩) rfl rfl rfl ?_
              refine gop (y_move (v := .int _ _) rfl) rfl rfl rfl ?_
              refine gops_nil ?_
              rw [flK_set hk1 hft]
              refine gnext2 (k + 1) (by omega) (show k + 1 ≤ _ by omega) ⟨rfl, trivial⟩ ⟨rfl, rfl, rfl, trivial⟩ ⟨_, rfl⟩
        · 
          replace hc35 := of_decide_eq_false hc35
          rw [flK_all _ _ (by omega : l.length ≤ k)]
          refine gexit ?_
          refine hN7 _ _ ?_
          refine gfrom [] trivial fun σ => ?_
          refine gseq fun N19 hN19 => ?_
          refine greg ?_
          refine gop (y_assign (v := .int _ _) rfl) rfl rfl rfl ?_
          refine gops_nil ?_
          refine hN19 _ _ ?_
          refine gfrom [(4, .int _ _)] ⟨rfl, trivial⟩ fun σ => ?_
          refine gret fun w1 hM => ?_
          refine ⟨_, res1 rfl (rt (v := .int _ _) rfl), ?_⟩
          rw [hP]
          have e1 : l.length = (l.map (followT (pls hs))).length := by simp
          rw [e1] at hM
          exact ⟨A17, c17, hA, hc, _, rfl, ⟨hc17, hm17, hn17, by have := happ.len; rw [← hAR] at this; show (applyR (pls hs) text).length * 16 ≤ _; unfold reachBytes; omega⟩, .inr fun w1 h2 => (row_rdl (f := strCells) (fun _ => rfl) (h2 _ (List.mem_of_getElem? (i := 1) rfl))).mono hlo17, hM⟩
  · 
    refine ge_op 9 (k' := 0) (listed' := #[true, true, true, true, true, false, false, false, false, true, false, false]) rfl rfl rfl ?_
    refine gop_alloc (cs := #[.int .i64 0, .int .i64 0]) Tryz.zeroValue33 rfl rfl (fun b6 hb6 => ?_)
    refine gops_nil ?_
    refine ge_fin (TK := [box br _, rowl _ _ _ _ _ _, fr, box b3 _]) rfl (weak_take (T' := [box br _, rowl _ _ _ _ _ _, fr, box b3 _]) rfl) ?_
    refine ge_one 5 (k' := 0) (listed' := #[true, true, true, true, true, true, false, false, false, true, false, false]) (by kernel_rfl) rfl rfl rfl ?_
    refine gop_got (fun v T' => ∃ lo v1, w0.heap.size ≤ lo ∧ v = .tuple #[v1, fv (applyF (pls hs) text)] ∧ T' = [rowl strCells lo 9 1 v1 (applyR (pls hs) text)]) (e_call (vs := [.agg #[_], .slice _ _ _]) Tryz.func91 rfl (by kernel_rfl) rfl) (fun w hM => (apply_any w _ _ hs (PatR.lasts.base hp hM) _ _ text ((htx w (hM.ok _ (List.mem_of_getElem? (i := 2) rfl))).mono (Nat.zero_le _)) htb).mono fun _ _ ⟨v, T1, h1, h2, h3⟩ => ⟨_, T1, h1, ⟨_, v, hM.low.size, rfl, h2⟩, h3⟩) rfl rfl rfl ?_
    rintro _ _ ⟨lo17, v17, hlo17, rfl, rfl⟩
    refine gops_fact (fun w hM => row_form (hM.ok _ (List.mem_of_getElem? (i := 5) rfl))) ?_
    rintro ⟨A17, c17, rfl, hc17, hm17, hn17⟩
    refine gops_nil ?_
    refine ge_fin (TK := [box br _, rowl _ _ _ _ _ _, fr, box b3 _]) rfl (weak_take (T' := [box br _, rowl _ _ _ _ _ _, fr, box b3 _]) rfl) ?_
    refine ge_take 6 (TK := [box br _, rowl _ _ _ _ _ _, fr, box b3 _]) rfl (by kernel_rfl) (by kernel_rfl) (by kernel_rfl) #[true, true, true, true, true, true, false, false, false, true, false, false] (by kernel_rfl) rfl (y_move (v := .tuple #[.slice A17 _ c17, .agg #[_, _]]) rfl) rfl rfl rfl (weak_take (T' := [box br _, rowl _ _ _ _ _ _, fr, box b3 _]) rfl) (listed' := #[true, true, true, true, true, true, true, false, false, true, false, false]) rfl ?_
    refine ge_take 7 (TK := [box br _, rowl _ _ _ _ _ _, fr, box b3 _]) rfl (by kernel_rfl) (by kernel_rfl) (by kernel_rfl) #[true, true, true, true, true, true, true, false, true, true, false, false] (by kernel_rfl) rfl (y_extract (v := .slice _ _ _) rfl rfl) rfl rfl rfl (weak_take (T' := [box br _, rowl _ _ _ _ _ _, fr, box b3 _]) rfl) (listed' := #[true, true, true, true, true, true, true, true, false, true, false, false]) rfl ?_
    refine ge_take 8 (TK := [box br _, rowl _ _ _ _ _ _, fr, box b3 _]) rfl (by kernel_rfl) (by kernel_rfl) (by kernel_rfl) #[true, true, true, true, true, true, true, true, false, true, true, false] (by kernel_rfl) rfl (y_extract (v := .agg #[_, _]) rfl rfl) rfl rfl rfl (weak_take (T' := [box br _, rowl _ _ _ _ _ _, fr, box b3 _]) rfl) (listed' := #[true, true, true, true, true, true, true, true, true, true, false, false]) rfl ?_
    refine ge_take 10 (TK := [box br _, rowl _ _ _ _ _ _, fr, box b3 _]) rfl (by kernel_rfl) (by kernel_rfl) (by kernel_rfl) #[true, true, true, true, true, true, true, true, true, true, false, false] (by kernel_rfl) rfl (y_assign (v := .slice _ _ _) rfl) rfl rfl rfl (weak_take (T' := [box br _, rowl _ _ _ _ _ _, fr, box b3 _]) rfl) (listed' := #[true, true, true, true, true, true, true, true, true, true, true, false]) rfl ?_
    refine ge_one 11 (k' := 1) (listed' := #[true, true, true, true, true, true, true, true, true, true, true, true]) (by kernel_rfl) rfl rfl rfl ?_
    refine gop_store 4 (v := .agg #[_, _]) (cs' := #[_, _]) rfl rfl Tryz.sizeOf33 rfl rfl rfl rfl (Nat.le_of_ble_eq_true rfl) rfl rfl ?_
    refine gops_nil ?_
    refine ge_fin (TK := []) rfl (weak_nil) ?_
    refine ge_done (by kernel_rfl) ?_
    refine fin_mem _ (weak_perm (List.Perm.cons _ (List.Perm.cons _ (List.Perm.cons _ (List.Perm.cons _ (List.Perm.swap _ _ _)))))) ?_
    refine hN2 _ _ ?_
    refine gT [box br _, rowl _ _ _ _ _ _, fr, box b3 _, rowl _ _ _ _ _ _, box b6 _] rfl ?_
    refine gfrom [(0, .pointer _), (3, .pointer _), (5, .slice _ _ _), (6, .pointer _)] ⟨rfl, rfl, rfl, rfl, trivial⟩ fun σ => ?_
    refine gseq fun N20 hN20 => ?_
    refine gseq fun N21 hN21 => ?_
    refine greg ?_
    refine gop (y_loads (cs := [_, _]) Tryz.isAgg33 Tryz.sizeOf33 rfl rfl (cells_box 5 rfl)) rfl rfl rfl ?_
    refine gop (y_build (vs := []) (cells := #[.int .i64 0, .int .i64 0]) rfl bd33_) rfl rfl rfl ?_
    refine gop (y_bin (vx := .agg #[_, _]) (vy := .agg #[_, _]) rfl rfl (fun w => eg33 _ _ _ _ _ w) (fun w => ne33 _ _ _ _ w)) rfl rfl rfl ?_
    refine gops_nil ?_
    refine hN21 _ _ ?_
    refine gfrom [(0, .pointer _), (3, .pointer _), (5, .slice _ _ _), (6, .pointer _), (22, .bool _)] ⟨rfl, rfl, rfl, rfl, rfl, trivial⟩ fun σ => ?_
    refine gcond (b := _) rfl (fun hc22 => ?_) (fun hc22 => ?_)
    · 
      replace hc22 := fault_ne.1 hc22
      have hP : patchT (l, text) (pls hs) = ((applyF (pls hs) text).code, (l, text)) := by rw [patchT, if_pos hc22]
      refine gseq fun N22 hN22 => ?_
      refine greg ?_
      refine gop (y_fieldAddr_box fa33_0 rfl) rfl rfl rfl ?_
      refine gop (y_load Tryz.isAgg3 rfl (cell_box 5 rfl rfl)) rfl rfl rfl ?_
      refine gop (y_assign (v := .int _ _) rfl) rfl rfl rfl ?_
      refine gops_nil ?_
      refine hN22 _ _ ?_
      refine gfrom [(4, .int _ _)] ⟨rfl, trivial⟩ fun σ => ?_
      refine gret fun w1 hM => ?_
      refine ⟨_, res1 rfl (rt (v := .int _ _) rfl), ?_⟩
      rw [hP]
      exact ⟨tA, tc, hA, hc, _, rfl, htb, .inl ⟨rfl, rfl⟩, hM⟩
    · 
      replace hc22 := fault_eq.1 hc22
      obtain ⟨_, happ, hAR⟩ := applyF_code (hs := pls hs) (text := text) (by rw [hc22])
      have hv := happ.pv
      have hP : patchT (l, text) (pls hs) = (0, (l.map (followT (pls hs)), applyR (pls hs) text)) := by rw [hAR, patchT, if_neg (by simp [hc22])]
      refine gskip ?_
      refine hN20 _ _ ?_
      refine gfrom [(0, .pointer _), (3, .pointer _), (5, .slice _ _ _)] ⟨rfl, rfl, rfl, trivial⟩ fun σ => ?_
      refine gseq fun N23 hN23 => ?_
      refine greg ?_
      refine gop (y_move (v := .pointer _) rfl) rfl rfl rfl ?_
      refine gop (y_move (v := .slice _ _ _) rfl) rfl rfl rfl ?_
      refine gop (y_nilCheck rfl) rfl rfl rfl ?_
      refine gop (y_fieldAddr_box fa98_0 rfl) rfl rfl rfl ?_
      refine gop_store 0 (v := .slice _ _ _) (cs' := #[_, _]) rfl rfl Tryz.sizeOf22 rfl rfl rfl rfl (Nat.le_of_ble_eq_true rfl) rfl rfl ?_
      refine gops_nil ?_
      refine hN23 _ _ ?_
      refine gT [box br _, rowl _ _ _ _ _ _, fr, box b3 _, rowl _ _ _ _ _ _, box b6 _] rfl ?_
      refine gfrom [(0, .pointer _), (3, .pointer _)] ⟨rfl, rfl, trivial⟩ fun σ => ?_
      refine gseq fun N24 hN24 => ?_
      refine gseq fun N25 hN25 => ?_
      refine greg ?_
      refine gop (y_move (v := .pointer _) rfl) rfl rfl rfl ?_
      refine gop (y_nilCheck rfl) rfl rfl rfl ?_
      refine gop (y_fieldAddr_box fa98_1 rfl) rfl rfl rfl ?_
      refine gop (y_load Tryz.isAgg31 rfl (cell_box 0 rfl rfl)) rfl rfl rfl ?_
      refine gop (y_len Tryz.underlying31 rfl) rfl rfl rfl ?_
      refine gop (y_move (v := .int _ _) rfl) rfl rfl rfl ?_
      refine gops_nil ?_
      refine hN25 _ _ ?_
      refine gfrom [(0, .pointer _), (3, .pointer _), (33, .int _ _), (34, .int _ _)] ⟨rfl, rfl, rfl, rfl, trivial⟩ fun σ => ?_
      refine gblock ?_
      refine gfrom2 [(34, .int _ _)] [(0, .pointer _), (3, .pointer _), (33, .int _ _)] ⟨rfl, trivial⟩ ⟨rfl, rfl, rfl, trivial⟩ fun σ => ?_
      refine gloop2 (G := Nat) (fun k => k ≤ l.length) (fun k => l.length - k) (fun k => [(34, .int .i64 (k : Int))]) (fun k => [(1, rowl thrCells w0.heap.size 39 5 (.slice hA l.length hc) (flK (pls hs) l k))]) (0) ?h0 ⟨rfl, trivial⟩ ⟨rfl, rfl, rfl, trivial⟩ rfl ?round
      case h0 => exact Nat.zero_le _
      case round =>
        intro k hφ σ
        have hk : k ≤ l.length := hφ
        refine gT [box br _, rowl _ _ _ _ _ _, fr, box b3 _, rowl _ _ _ _ _ _, box b6 _] rfl ?_
        refine gseq fun N26 hN26 => ?_
        refine greg ?_
        refine gop (y_lss rfl rfl) rfl rfl rfl ?_
        refine gops_nil ?_
        refine hN26 _ _ ?_
        refine gfrom [(0, .pointer _), (3, .pointer _), (33, .int _ _), (34, .int _ _), (35, .bool _)] ⟨rfl, rfl, rfl, rfl, rfl, trivial⟩ fun σ => ?_
        refine gseq fun N27 hN27 => ?_
        refine gcond (b := _) rfl (fun hc35 => ?_) (fun hc35 => ?_)
        · 
          replace hc35 := of_decide_eq_true hc35
          have hk1 : k < l.length := by omega
          refine g_fact (fun w hM => own_some (hM.own 1 rfl) (by rw [flK_len _ _ hk]; omega)) ?_
          rintro ⟨rg, cg, hvg, -, -⟩
          simp only [Value.slice.injEq] at hvg
          obtain ⟨rfl, -, rfl⟩ := hvg
          have hl1 := hi1 _ (List.getElem_mem hk1)
          have hl2 := hi2 _ (List.getElem_mem hk1)
          refine gskip ?_
          refine hN27 _ _ ?_
          refine gfrom [(0, .pointer _), (3, .pointer _), (33, .int _ _), (34, .int _ _)] ⟨rfl, rfl, rfl, rfl, trivial⟩ fun σ => ?_
          refine gseq fun N28 hN28 => ?_
          refine gblock ?_
          refine gseq fun N29 hN29 => ?_
          refine greg ?_
          refine gop (y_move (v := .int _ _) rfl) rfl rfl rfl ?_
          refine gop (y_assign (v := .int _ _) rfl) rfl rfl rfl ?_
          refine gops_nil ?_
          refine hN29 _ _ ?_
          refine gfrom [(0, .pointer _), (3, .pointer _), (7, .int _ _), (33, .int _ _), (34, .int _ _)] ⟨rfl, rfl, rfl, rfl, rfl, trivial⟩ fun σ => ?_
          refine gseq fun N30 hN30 => ?_
          refine greg ?_
          refine gop (y_move (v := .pointer _) rfl) rfl rfl rfl ?_
          refine gop (y_nilCheck rfl) rfl rfl rfl ?_
          refine gop (y_fieldAddr_box fa98_1 rfl) rfl rfl rfl ?_
          refine gop (y_load Tryz.isAgg31 rfl (cell_box 0 rfl rfl)) rfl rfl rfl ?_
          refine gop (y_move (v := .int _ _) rfl) rfl rfl rfl ?_
          refine gop (y_indexAddr (m := k) Tryz.underlying31 Tryz.sizeOf39 rfl rfl (by omega) (by omega) (by omega)) rfl rfl rfl ?_
          refine gop (y_assign (v := .pointer _) rfl) rfl rfl rfl ?_
          refine gops_nil ?_
          refine hN30 _ _ ?_
          refine gfrom [(0, .pointer _), (3, .pointer _), (8, .pointer _), (33, .int _ _), (34, .int _ _)] ⟨rfl, rfl, rfl, rfl, rfl, trivial⟩ fun σ => ?_
          refine gseq fun N31 hN31 => ?_
          refine gseq fun N32 hN32 => ?_
          refine greg ?_
          refine gop (y_move (v := .pointer _) rfl) rfl rfl rfl ?_
          refine gop (y_nilCheck rfl) rfl rfl rfl ?_
          refine gop (y_fieldAddr_add fa39_3 rfl) rfl rfl rfl ?_
          refine gop (y_load Tryz.isAgg4 rfl (cells_rowl 1 (f := thrCells) (l := flK (pls hs) l k) rfl (flK_len _ _ hk).symm (fun _ => rfl) (flK_at hk1) 3 _ rfl)) rfl rfl rfl ?_
          refine gops_nil ?_
          refine hN32 _ _ ?_
          refine gfrom [(0, .pointer _), (3, .pointer _), (8, .pointer _), (33, .int _ _), (34, .int _ _), (46, .bool _)] ⟨rfl, rfl, rfl, rfl, rfl, rfl, trivial⟩ fun σ => ?_
          refine gcond (b := _) rfl (fun hc46 => ?_) (fun hc46 => ?_)
          · 
            have hft : followT (pls hs) l[k] = l[k] := followT_out hc46
            refine gexit ?_
            refine hN28 _ _ ?_
            refine gfrom [(0, .pointer _), (3, .pointer _), (33, .int _ _), (34, .int _ _)] ⟨rfl, rfl, rfl, rfl, trivial⟩ fun σ => ?_
            refine greg ?_
            refine gop (y_add rfl rfl ⟨by omega, by omega⟩) rfl rfl rfl ?_
            refine gop (y_move (v := .int _ _) rfl) rfl rfl rfl ?_
            refine gops_nil ?_
            rw [flK_same hk1 hft]
            refine gnext2 (k + 1) (by omega) (show k + 1 ≤ _ by omega) ⟨rfl, trivial⟩ ⟨rfl, rfl, rfl, trivial⟩ ⟨_, rfl⟩
          · 
            refine gskip ?_
            refine hN31 _ _ ?_
            refine gfrom [(0, .pointer _), (3, .pointer _), (8, .pointer _), (33, .int _ _), (34, .int _ _)] ⟨rfl, rfl, rfl, rfl, rfl, trivial⟩ fun σ => ?_
            refine gseq fun N33 hN33 => ?_
            refine greg_q (by kernel_rfl) (by kernel_rfl) ?_
            refine gq (y_loads (cs := [_]) Tryz.isAgg27 Tryz.sizeOf27 rfl rfl (cells_box 3 rfl)) rfl rfl rfl ?_
            refine gq (y_move (v := .pointer _) rfl) rfl rfl rfl ?_
            refine gq (y_nilCheck rfl) rfl rfl rfl ?_
            refine gq (y_fieldAddr_add fa39_1 rfl) rfl rfl rfl ?_
            refine gq (y_load Tryz.isAgg3 rfl (cells_rowl 1 (f := thrCells) (l := flK (pls hs) l k) rfl (flK_len _ _ hk).symm (fun _ => rfl) (flK_at hk1) 1 _ rfl)) rfl rfl rfl ?_
            refine gq_pure (e_call (vs := [.agg #[_], .int _ _]) Tryz.func33 rfl (by kernel_rfl) rfl) (fun w hM => place_any w _ _ hs (PatR.lasts.base hp hM) (by simpa using hv.len) hv.each l[k].line (by omega) (by omega)) rfl rfl rfl ?_
            refine gq (y_move (v := .tuple #[.int _ _, .bool _]) rfl) rfl rfl rfl ?_
            refine gq (y_extract (v := .int _ _) rfl rfl) rfl rfl rfl ?_
            refine gq (y_extract (v := .bool _) rfl rfl) rfl rfl rfl ?_
            refine gq (y_assign (v := .int _ _) rfl) rfl rfl rfl ?_
            refine gq (y_assign (v := .bool _) rfl) rfl rfl rfl ?_
            refine gqs_nil ?_
            refine hN33 _ _ ?_
            refine gfrom [(0, .pointer _), (3, .pointer _), (8, .pointer _), (9, .int _ _), (10, .bool _), (33, .int _ _), (34, .int _ _)] ⟨rfl, rfl, rfl, rfl, rfl, rfl, rfl, trivial⟩ fun σ => ?_
            refine gseq fun N34 hN34 => ?_
            refine greg ?_
            refine gop (y_move (v := .pointer _) rfl) rfl rfl rfl ?_
            refine gop (y_move (v := .bool _) rfl) rfl rfl rfl ?_
            refine gop (y_not rfl) rfl rfl rfl ?_
            refine gop (y_nilCheck rfl) rfl rfl rfl ?_
            refine gop (y_fieldAddr_add fa39_3 rfl) rfl rfl rfl ?_
            refine gop_store_row 1 (f := thrCells) (l := flK (pls hs) l k) (k := k) (o := 3) (v := .bool _) (a := l[k]) (a' := { l[k] with outdated := !(place (pls hs) l[k].line 0).2 }) (fun _ => rfl) rfl rfl rfl Tryz.sizeOf4 rfl rfl rfl rfl (flK_len _ _ hk).symm (flK_at hk1) (Nat.le_of_ble_eq_true rfl) rfl rfl ?_
            refine gops_nil ?_
            refine hN34 _ _ ?_
            refine gT [box br _, rowl _ _ _ _ _ _, fr, box b3 _, rowl _ _ _ _ _ _, box b6 _] rfl ?_
            refine gfrom [(0, .pointer _), (3, .pointer _), (8, .pointer _), (9, .int _ _), (10, .bool _), (33, .int _ _), (34, .int _ _)] ⟨rfl, rfl, rfl, rfl, rfl, rfl, rfl, trivial⟩ fun σ => ?_
            refine gseq fun N35 hN35 => ?_
            refine greg ?_
            refine gop (y_move (v := .bool _) rfl) rfl rfl rfl ?_
            refine gops_nil ?_
            refine hN35 _ _ ?_
            refine gfrom [(0, .pointer _), (3, .pointer _), (8, .pointer _), (9, .int _ _), (33, .int _ _), (34, .int _ _), (61, .bool _)] ⟨rfl, rfl, rfl, rfl, rfl, rfl, rfl, trivial⟩ fun σ => ?_
            refine gcond (b := _) rfl (fun hc61 => ?_) (fun hc61 => ?_)
            · 
              have hft : ({ l[k] with line := (place (pls hs) l[k].line 0).1, outdated := !(place (pls hs) l[k].line 0).2 } : Thr) = followT (pls hs) l[k] := by rw [followT, if_neg (by simp [hc46]), if_pos hc61, hc61]; rfl
              refine greg ?_
              refine gop (y_move (v := .pointer _) rfl) rfl rfl rfl ?_
              refine gop (y_move (v := .int _ _) rfl) rfl rfl rfl ?_
              refine gop (y_nilCheck rfl) rfl rfl rfl ?_
              refine gop (y_fieldAddr_add fa39_1 rfl) rfl rfl rfl ?_
              refine gop_store_row 1 (f := thrCells) (l := (flK (pls hs) l k).set k { l[k] with outdated := !(place (pls hs) l[k].line 0).2 }) (k := k) (o := 1) (v := .int _ _) (a := { l[k] with outdated := !(place (pls hs) l[k].line 0).2 }) (a' := { l[k] with line := (place (pls hs) l[k].line 0).1, outdated := !(place (pls hs) l[k].line 0).2 }) (fun _ => rfl) rfl rfl rfl Tryz.sizeOf3 rfl rfl rfl rfl (by rw [List.length_set, flK_len _ _ hk]) (by rw [List.getElem?_set_self (by rw [flK_len _ _ hk]; exact hk1)]) (Nat.le_of_ble_eq_true rfl) rfl rfl ?_
              refine gops_nil ?_
              refine hN28 _ _ ?_
              refine gT [box br _, rowl _ _ _ _ _ _, fr, box b3 _, rowl _ _ _ _ _ _, box b6 _] rfl ?_
              refine gfrom [(0, .pointer _), (3, .pointer _), (33, .int _ _), (34, .int _ _)] ⟨rfl, rfl, rfl, rfl, trivial⟩ fun σ => ?_
              refine greg ?_
              refine gop (y_add rfl rfl ⟨by omega, by omega⟩) rfl rfl rfl ?_
              refine gop (y_move (v := .int _ _) rfl) rfl rfl rfl ?_
              refine gops_nil ?_
              rw [List.set_set, flK_set hk1 hft]
              refine gnext2 (k + 1) (by omega) (show k + 1 ≤ _ by omega) ⟨rfl, trivial⟩ ⟨rfl, rfl, rfl, trivial⟩ ⟨_, rfl⟩
            · 
              have hft : ({ l[k] with outdated := !(place (pls hs) l[k].line 0).2 } : Thr) = followT (pls hs) l[k] := by rw [followT, if_neg (by simp [hc46]), if_neg (by simp [hc61]), hc61]; rfl
              refine gskip ?_
              refine hN28 _ _ ?_
              refine gfrom [(0, .pointer _), (3, .pointer _), (33, .int _ _), (34, .int _ _)] ⟨rfl, rfl, rfl, rfl, trivial⟩ fun σ => ?_
              refine greg ?_
              refine gop (y_add rfl rfl ⟨by omega, by omega⟩) rfl rfl rfl ?_
              refine gop (y_move (v := .int _ _) rfl) rfl rfl rfl ?_
              refine gops_nil ?_
              rw [flK_set hk1 hft]
              refine gnext2 (k + 1) (by omega) (show k + 1 ≤ _ by omega) ⟨rfl, trivial⟩ ⟨rfl, rfl, rfl, trivial⟩ ⟨_, rfl⟩
        · 
          replace hc35 := of_decide_eq_false hc35
          rw [flK_all _ _ (by omega : l.length ≤ k)]
          refine gexit ?_
          refine hN24 _ _ ?_
          refine gfrom [] trivial fun σ => ?_
          refine gseq fun N36 hN36 => ?_
          refine greg ?_
          refine gop (y_assign (v := .int _ _) rfl) rfl rfl rfl ?_
          refine gops_nil ?_
          refine hN36 _ _ ?_
          refine gfrom [(4, .int _ _)] ⟨rfl, trivial⟩ fun σ => ?_
          refine gret fun w1 hM => ?_
          refine ⟨_, res1 rfl (rt (v := .int _ _) rfl), ?_⟩
          rw [hP]
          have e1 : l.length = (l.map (followT (pls hs))).length := by simp
          rw [e1] at hM
          exact ⟨A17, c17, hA, hc, _, rfl, ⟨hc17, hm17, hn17, by have := happ.len; rw [← hAR] at this; show (applyR (pls hs) text).length * 16 ≤ _; unfold reachBytes; omega⟩, .inr fun w1 h2 => (row_rdl (f := strCells) (fun _ => rfl) (h2 _ (List.mem_of_getElem? (i := 1) rfl))).mono hlo17, hM⟩
set_option maxHeartbeats 4000000 in
theorem step_any (w0 w : World) (br tc hc : Nat) (tA hA : Option Addr) (text : List ByteArray) (l : List Thr) (fr : Reg) (hM0 : Mem w0 [box br (.cells #[.slice tA (text).length tc, .slice hA (l).length hc] 98), rowl thrCells w0.heap.size 39 5 (.slice hA l.length hc) (l), fr] w) (htx : ∀ w1, fr.ok w1 → Rdl w1 w0.heap.size 1 strCells tA text) (htb : SB tA text.length tc 16) (x : EvC) (hx : EvR w0 0 x) (hi : RI (l, text) 100) :
    Calls Tryz.prog 30 #[.pointer (some ⟨br, 0, none⟩), evV x] w fun e w' => ∃ tA' tc' hA' hc' G, e = .returned (.int .i64 (stepE (l, text) x.pl).1) ∧ SB tA' (stepE (l, text) x.pl).2.2.length tc' 16 ∧ ((tA' = tA ∧ (stepE (l, text) x.pl).2.2 = text) ∨ ∀ w1, (∀ r ∈ G, r.ok w1) → Rdl w1 w0.heap.size 1 strCells tA' (stepE (l, text) x.pl).2.2) ∧ Mem w0 (box br (.cells #[.slice tA' ((stepE (l, text) x.pl).2.2).length tc', .slice hA' ((stepE (l, text) x.pl).2.1).length hc'] 98) :: rowl thrCells w0.heap.size 39 5 (.slice hA' (stepE (l, text) x.pl).2.1.length hc') ((stepE (l, text) x.pl).2.1) :: fr :: G) w' := by
  have hmx : maxLen = 9223372036854775807 := rfl
  have hi3 := hi.few
  simp only at hi3
  refine gcallsT Tryz.func30 rfl Tryz.ntmps30 (Nat.le_of_ble_eq_true rfl) hM0 ?_
  refine gfrom [(0, .pointer _), (1, .agg #[_, _, _, _, _, _])] ⟨rfl, rfl, trivial⟩ fun σ => ?_
  refine gseq fun N1 hN1 => ?_
  refine greg ?_
  refine gop_box (v := .agg #[_, _, _, _, _, _]) (cs := #[_, _, _, _, _, _]) rfl rfl rfl (fun b3 hb3 => ?_)
  refine gop (y_assign (v := .int _ _) rfl) rfl rfl rfl ?_
  refine gops_nil ?_
  refine hN1 _ _ ?_
  refine gT [box br _, rowl _ _ _ _ _ _, fr, box b3 _] rfl ?_
  refine gfrom [(0, .pointer _), (3, .pointer _)] ⟨rfl, rfl, trivial⟩ fun σ => ?_
  refine gseq fun N2 hN2 => ?_
  refine gseq fun N3 hN3 => ?_
  refine greg ?_
  refine gop (y_loads (cs := [_, _, _, _, _, _]) Tryz.isAgg29 Tryz.sizeOf29 rfl rfl (cells_box 3 rfl)) rfl rfl rfl ?_
  refine gop_pure (e_call (vs := [.agg #[_, _, _, _, _, _]]) Tryz.func59 rfl (by kernel_rfl) rfl) (fun w hM => form_any w x) rfl rfl rfl ?_
  refine gop (y_assign (v := .int _ _) rfl) rfl rfl rfl ?_
  refine gops_nil ?_
  refine hN3 _ _ ?_
  refine gfrom [(0, .pointer _), (3, .pointer _), (5, .int _ _)] ⟨rfl, rfl, rfl, trivial⟩ fun σ => ?_
  refine gseq fun N4 hN4 => ?_
  refine greg ?_
  refine gop (y_move (v := .int _ _) rfl) rfl rfl rfl ?_
  refine gop (y_neq rfl rfl) rfl rfl rfl ?_
  refine gops_nil ?_
  refine hN4 _ _ ?_
  refine gfrom [(0, .pointer _), (3, .pointer _), (5, .int _ _), (10, .bool _)] ⟨rfl, rfl, rfl, rfl, trivial⟩ fun σ => ?_
  refine gcond (b := _) rfl (fun hc10 => ?_) (fun hc10 => ?_)
  · 
    replace hc10 := of_decide_eq_true hc10
    have hS : stepE (l, text) x.pl = (formC x.pl, (l, text)) := by rw [stepE, if_pos hc10]
    refine gseq fun N5 hN5 => ?_
    refine greg ?_
    refine gop (y_move (v := .int _ _) rfl) rfl rfl rfl ?_
    refine gop (y_assign (v := .int _ _) rfl) rfl rfl rfl ?_
    refine gops_nil ?_
    refine hN5 _ _ ?_
    refine gfrom [(4, .int _ _)] ⟨rfl, trivial⟩ fun σ => ?_
    refine gret fun w1 hM => ?_
    refine ⟨_, res1 rfl (rt (v := .int _ _) rfl), ?_⟩
    rw [hS]
    exact ⟨tA, tc, _, _, _, rfl, htb, .inl ⟨rfl, rfl⟩, hM⟩
  · 
    replace hc10 := Decidable.not_not.1 (of_decide_eq_false hc10)
    refine g_fact (fun w hM => (fun h => by obtain ⟨g, c, hv, _⟩ := own_some (hM.own 1 rfl) h; simp only [Value.slice.injEq] at hv; exact ⟨_, hv.1⟩ : 0 < l.length → ∃ ad, hA = some ad)) ?_
    intro hsome
    refine gskip ?_
    refine hN2 _ _ ?_
    refine gfrom [(0, .pointer _), (3, .pointer _)] ⟨rfl, rfl, trivial⟩ fun σ => ?_
    refine gseq fun N6 hN6 => ?_
    refine greg ?_
    refine gop (y_move (v := .pointer _) rfl) rfl rfl rfl ?_
    refine gop (y_fieldAddr_box fa29_2 rfl) rfl rfl rfl ?_
    refine gop (y_load Tryz.isAgg3 rfl (cell_box 3 rfl rfl)) rfl rfl rfl ?_
    refine gop_pure (e_call (vs := [.pointer _, .int _ _]) Tryz.func60 rfl (by kernel_rfl) rfl) (fun w hM => thread_any w br _ _ _ _ (cell_box (w0 := w0) 0 (off := 1) rfl rfl w hM) hsome) rfl rfl rfl ?_
    refine gop (y_assign (v := .pointer _) rfl) rfl rfl rfl ?_
    refine gops_nil ?_
    refine hN6 _ _ ?_
    refine gfrom [(0, .pointer _), (3, .pointer _), (6, .pointer _)] ⟨rfl, rfl, rfl, trivial⟩ fun σ => ?_
    refine gseq fun N7 hN7 => ?_
    refine gseq fun N8 hN8 => ?_
    refine greg ?_
    refine gop (y_fieldAddr_box fa29_0 rfl) rfl rfl rfl ?_
    refine gop (y_load Tryz.isAgg3 rfl (cell_box 3 rfl rfl)) rfl rfl rfl ?_
    refine gops_nil ?_
    refine hN8 _ _ ?_
    refine gfrom [(0, .pointer _), (3, .pointer _), (6, .pointer _), (17, .int _ _)] ⟨rfl, rfl, rfl, rfl, trivial⟩ fun σ => ?_
    refine gblock ?_
    refine gseq fun N9 hN9 => ?_
    refine greg ?_
    refine gop (y_eql rfl rfl) rfl rfl rfl ?_
    refine gop (y_assign (v := .bool _) rfl) rfl rfl rfl ?_
    refine gops_nil ?_
    refine hN9 _ _ ?_
    refine gfrom [(0, .pointer _), (3, .pointer _), (6, .pointer _), (17, .int _ _), (18, .bool _)] ⟨rfl, rfl, rfl, rfl, rfl, trivial⟩ fun σ => ?_
    refine gcond (b := _) rfl (fun hc18 => ?_) (fun hc18 => ?_)
    · 
      replace hc18 := of_decide_eq_true hc18
      refine gseq fun N10 hN10 => ?_
      refine gseq fun N11 hN11 => ?_
      refine greg_q (by kernel_rfl) (by kernel_rfl) ?_
      refine gq (y_fieldAddr_box fa29_3 rfl) rfl rfl rfl ?_
      refine gq (y_load Tryz.isAgg3 rfl (cell_box 3 rfl rfl)) rfl rfl rfl ?_
      refine gq (y_lss rfl rfl) rfl rfl rfl ?_
      refine gq (y_move (v := .bool _) rfl) rfl rfl rfl ?_
      refine gq_if (want := false) rfl rfl rfl rfl rfl rfl (fun hg23 => ?_) (fun hg23 => ?_)
      · 
        have hg23d := of_decide_eq_false hg23
        refine gq (y_bare (y_fieldAddr_box fa29_3 rfl)) rfl rfl rfl ?_
        refine gq_on rfl rfl rfl rfl hg23 ?_
        refine gq (y_bare (y_load Tryz.isAgg3 rfl (cell_box 3 rfl rfl))) rfl rfl rfl ?_
        refine gq_on rfl rfl rfl rfl hg23 ?_
        refine gq (y_bare (y_move (v := .pointer _) rfl)) rfl rfl rfl ?_
        refine gq_on rfl rfl rfl rfl hg23 ?_
        refine gq (y_bare (y_nilCheck rfl)) rfl rfl rfl ?_
        refine gq_on rfl rfl rfl rfl hg23 ?_
        refine gq (y_bare (y_fieldAddr_box fa98_0 rfl)) rfl rfl rfl ?_
        refine gq_on rfl rfl rfl rfl hg23 ?_
        refine gq (y_bare (y_load Tryz.isAgg22 rfl (cell_box 0 rfl rfl))) rfl rfl rfl ?_
        refine gq_on rfl rfl rfl rfl hg23 ?_
        refine gq (y_bare (y_len Tryz.underlying22 rfl)) rfl rfl rfl ?_
        refine gq_on rfl rfl rfl rfl hg23 ?_
        refine gq (y_bare (y_geq rfl rfl)) rfl rfl rfl ?_
        refine gq (y_pick_f (v := .bool _) rfl hg23 rfl) rfl rfl rfl ?_
        refine gqs_nil ?_
        refine hN11 _ _ ?_
        refine gfrom [(0, .pointer _), (3, .pointer _), (32, .bool _)] ⟨rfl, rfl, rfl, trivial⟩ fun σ => ?_
        refine gcond (b := _) rfl (fun hc32 => ?_) (fun hc32 => ?_)
        · 
          replace hc32 := of_decide_eq_true hc32
          have hS : stepE (l, text) x.pl = (3, (l, text)) := by rw [stepE_open (e := x.pl) hc10 hc18, if_pos (show x.pl.line < 0 ∨ (text.length : Int) ≤ x.pl.line from by show x.line < 0 ∨ _ ≤ x.line; omega)]
          refine gseq fun N12 hN12 => ?_
          refine greg ?_
          refine gop (y_assign (v := .int _ _) rfl) rfl rfl rfl ?_
          refine gops_nil ?_
          refine hN12 _ _ ?_
          refine gfrom [(4, .int _ _)] ⟨rfl, trivial⟩ fun σ => ?_
          refine gret fun w1 hM => ?_
          refine ⟨_, res1 rfl (rt (v := .int _ _) rfl), ?_⟩
          rw [hS]
          exact ⟨tA, tc, _, _, _, rfl, htb, .inl ⟨rfl, rfl⟩, hM⟩
        · 
          replace hc32 := of_decide_eq_false hc32
          have hL : ¬ (x.pl.line < 0 ∨ (text.length : Int) ≤ x.pl.line) := by show ¬ (x.line < 0 ∨ _ ≤ x.line); omega
          refine gskip ?_
          refine hN10 _ _ ?_
          refine gfrom [(0, .pointer _), (3, .pointer _)] ⟨rfl, rfl, trivial⟩ fun σ => ?_
          refine gseq fun N13 hN13 => ?_
          refine gseq fun N14 hN14 => ?_
          refine greg ?_
          refine gop (y_move (v := .pointer _) rfl) rfl rfl rfl ?_
          refine gop (y_nilCheck rfl) rfl rfl rfl ?_
          refine gop (y_fieldAddr_box fa98_1 rfl) rfl rfl rfl ?_
          refine gop (y_load Tryz.isAgg31 rfl (cell_box 0 rfl rfl)) rfl rfl rfl ?_
          refine gop (y_len Tryz.underlying31 rfl) rfl rfl rfl ?_
          refine gop (y_geq rfl rfl) rfl rfl rfl ?_
          refine gops_nil ?_
          refine hN14 _ _ ?_
          refine gfrom [(0, .pointer _), (3, .pointer _), (38, .bool _)] ⟨rfl, rfl, rfl, trivial⟩ fun σ => ?_
          refine gcond (b := _) rfl (fun hc38 => ?_) (fun hc38 => ?_)
          · 
            replace hc38 := of_decide_eq_true hc38
            have hS : stepE (l, text) x.pl = (14, (l, text)) := by rw [stepE_open (e := x.pl) hc10 hc18, if_neg hL, if_pos (show 12 ≤ l.length by omega)]
            refine gseq fun N15 hN15 => ?_
            refine greg ?_
            refine gop (y_assign (v := .int _ _) rfl) rfl rfl rfl ?_
            refine gops_nil ?_
            refine hN15 _ _ ?_
            refine gfrom [(4, .int _ _)] ⟨rfl, trivial⟩ fun σ => ?_
            refine gret fun w1 hM => ?_
            refine ⟨_, res1 rfl (rt (v := .int _ _) rfl), ?_⟩
            rw [hS]
            exact ⟨tA, tc, _, _, _, rfl, htb, .inl ⟨rfl, rfl⟩, hM⟩
          · 
            replace hc38 := of_decide_eq_false hc38
            have hS : stepE (l, text) x.pl = (0, (l ++ [⟨x.user, x.line, 1, false, false⟩], text)) := by rw [stepE_open (e := x.pl) hc10 hc18, if_neg hL, if_neg (show ¬ 12 ≤ l.length by omega)]
            refine gskip ?_
            refine hN13 _ _ ?_
            refine gfrom [(0, .pointer _), (3, .pointer _)] ⟨rfl, rfl, trivial⟩ fun σ => ?_
            refine gseq fun N16 hN16 => ?_
            refine greg_e1 [14] [(1, emp)] (by kernel_rfl) ?_
            refine ge_take 0 (TK := [box br _, emp, fr, box b3 _]) rfl (by kernel_rfl) (by kernel_rfl) (by kernel_rfl) #[false, true, true, true, true, true, true, true, true, true, true, true, false, false, false] (by kernel_rfl) rfl (y_move (v := .pointer _) rfl) rfl rfl rfl (weak_emp 1 rfl) (listed' := #[true, false, false, false, false, false, false, false, false, false, false, false, false, false, false]) rfl ?_
            refine ge_take 1 (TK := [box br _, emp, fr, box b3 _]) rfl (by kernel_rfl) (by kernel_rfl) (by kernel_rfl) #[true, false, false, false, false, true, true, true, true, true, true, false, false, false, false] (by kernel_rfl) rfl (y_move (v := .pointer _) rfl) rfl rfl rfl (weak_emp 1 rfl) (listed' := #[true, true, false, false, false, false, false, false, false, false, false, false, false, false, false]) rfl ?_
            refine ge_take 2 (TK := [box br _, emp, fr, box b3 _]) rfl (by kernel_rfl) (by kernel_rfl) (by kernel_rfl) #[true, true, false, false, false, true, true, true, true, true, true, false, false, false, false] (by kernel_rfl) rfl (y_nilCheck rfl) rfl rfl rfl (weak_emp 1 rfl) (listed' := #[true, true, true, false, false, false, false, false, false, false, false, false, false, false, false]) rfl ?_
            refine ge_take 3 (TK := [box br _, emp, fr, box b3 _]) rfl (by kernel_rfl) (by kernel_rfl) (by kernel_rfl) #[true, true, true, false, false, true, true, true, true, true, true, false, false, false, false] (by kernel_rfl) rfl (y_fieldAddr_box fa98_1 rfl) rfl rfl rfl (weak_emp 1 rfl) (listed' := #[true, true, true, true, false, false, false, false, false, false, false, false, false, false, false]) rfl ?_
            refine ge_take 4 (TK := [box br _, emp, fr, box b3 _]) rfl (by kernel_rfl) (by kernel_rfl) (by kernel_rfl) #[true, true, true, true, false, true, true, true, true, true, true, false, false, false, false] (by kernel_rfl) rfl (y_load Tryz.isAgg31 rfl (cell_box 0 rfl rfl)) rfl rfl rfl (weak_emp 1 rfl) (listed' := #[true, true, true, true, true, false, false, false, false, false, false, false, false, false, false]) rfl ?_
            refine ge_take 5 (TK := [box br _, emp, fr, box b3 _]) rfl (by kernel_rfl) (by kernel_rfl) (by kernel_rfl) #[true, true, true, true, true, false, false, true, true, false, false, false, false, false, false] (by kernel_rfl) rfl (y_fieldAddr_box fa29_1 rfl) rfl rfl rfl (weak_emp 1 rfl) (listed' := #[true, true, true, true, true, true, false, false, false, false, false, false, false, false, false]) rfl ?_
            refine ge_take 6 (TK := [box br _, emp, fr, box b3 _]) rfl (by kernel_rfl) (by kernel_rfl) (by kernel_rfl) #[true, true, true, true, true, true, false, true, true, false, false, false, false, false, false] (by kernel_rfl) rfl (y_load Tryz.isAgg3 rfl (cell_box 3 rfl rfl)) rfl rfl rfl (weak_emp 1 rfl) (listed' := #[true, true, true, true, true, true, true, false, false, false, false, false, false, false, false]) rfl ?_
            refine ge_take 7 (TK := [box br _, emp, fr, box b3 _]) rfl (by kernel_rfl) (by kernel_rfl) (by kernel_rfl) #[true, true, true, true, true, true, true, false, false, false, false, false, false, false, false] (by kernel_rfl) rfl (y_fieldAddr_box fa29_3 rfl) rfl rfl rfl (weak_emp 1 rfl) (listed' := #[true, true, true, true, true, true, true, true, false, false, false, false, false, false, false]) rfl ?_
            refine ge_take 8 (TK := [box br _, emp, fr, box b3 _]) rfl (by kernel_rfl) (by kernel_rfl) (by kernel_rfl) #[true, true, true, true, true, true, true, true, false, false, false, false, false, false, false] (by kernel_rfl) rfl (y_load Tryz.isAgg3 rfl (cell_box 3 rfl rfl)) rfl rfl rfl (weak_emp 1 rfl) (listed' := #[true, true, true, true, true, true, true, true, true, false, false, false, false, false, false]) rfl ?_
            refine ge_take 9 (TK := [box br _, emp, fr, box b3 _]) rfl (by kernel_rfl) (by kernel_rfl) (by kernel_rfl) #[true, true, true, true, true, true, true, true, true, false, false, false, false, false, false] (by kernel_rfl) rfl (y_build (vs := [(0, .int _ _), (1, .int _ _), (2, _)]) (cells := #[_, _, _, .bool false, .bool false]) rfl (bd39_0_1_2 _ _ _)) rfl rfl rfl (weak_emp 1 rfl) (listed' := #[true, true, true, true, true, true, true, true, true, true, false, false, false, false, false]) rfl ?_
            refine ge_one 10 (k' := 0) (listed' := #[true, true, true, true, true, true, true, true, true, true, true, false, false, false, false]) (by kernel_rfl) rfl rfl rfl ?_
            refine gop_lit (vs := [.agg #[_, _, _, _, _]]) (cells := #[_, _, _, _, _]) Tryz.underlying31 Tryz.sizeOf39 Tryz.zeroValue39 rfl (by decide) (by decide) rfl rfl rfl rfl (fun b49 hb49 => ?_)
            refine gops_nil ?_
            refine ge_fin (TK := [box br _, emp, fr, box b3 _]) rfl (weak_trans (weak_take (T' := [box br _, rowl _ _ _ _ _ _, fr, box b3 _]) rfl) (weak_emp 1 rfl)) ?_
            refine ge_one 11 (k' := 0) (listed' := #[true, true, true, true, true, true, true, true, true, true, true, true, false, false, false]) (by kernel_rfl) rfl rfl rfl ?_
            refine gop_append 1 (f := thrCells) (l2 := [⟨x.user, x.line, 1, false, false⟩]) Tryz.underlying31 el39 wide_thr (v := .slice hA _ hc) rfl rfl rfl rfl (fun h => by cases h) (by simp [maxLen]; omega) (by simp; omega) (src_box 4 rfl rfl) rfl (fun v50 => ?_)
            refine gops_fact (fun w hM => own_form (hM.own 1 rfl)) ?_
            rintro ⟨A50, c50, rfl, hc50, hm50⟩
            refine gops_nil ?_
            refine ge_fin (TK := [box br _, emp, fr, box b3 _]) rfl (weak_trans (weak_take (T' := [box br _, rowl _ _ _ _ _ _, fr, box b3 _]) rfl) (weak_emp 1 rfl)) ?_
            refine ge_take 12 (TK := [box br _, emp, fr, box b3 _]) rfl (by kernel_rfl) (by kernel_rfl) (by kernel_rfl) #[true, true, true, true, true, true, true, true, true, true, true, true, false, false, false] (by kernel_rfl) rfl (y_nilCheck rfl) rfl rfl rfl (weak_trans (weak_take (T' := [box br _, rowl _ _ _ _ _ _, fr, box b3 _]) rfl) (weak_emp 1 rfl)) (listed' := #[true, true, true, true, true, true, true, true, true, true, true, true, true, false, false]) rfl ?_
            refine ge_take 13 (TK := [box br _, emp, fr, box b3 _]) rfl (by kernel_rfl) (by kernel_rfl) (by kernel_rfl) #[true, true, true, true, true, true, true, true, true, true, true, true, true, false, false] (by kernel_rfl) rfl (y_fieldAddr_box fa98_1 rfl) rfl rfl rfl (weak_trans (weak_take (T' := [box br _, rowl _ _ _ _ _ _, fr, box b3 _]) rfl) (weak_emp 1 rfl)) (listed' := #[true, true, true, true, true, true, true, true, true, true, true, true, true, true, false]) rfl ?_
            refine ge_one 14 (k' := 1) (listed' := #[true, true, true, true, true, true, true, true, true, true, true, true, true, true, true]) (by kernel_rfl) rfl rfl rfl ?_
            refine gop_store 0 (v := .slice A50 _ c50) (cs' := #[_, _]) rfl rfl Tryz.sizeOf31 rfl rfl rfl rfl (Nat.le_of_ble_eq_true rfl) rfl rfl ?_
            refine gops_nil ?_
            refine ge_fin (TK := []) rfl (weak_nil) ?_
            refine ge_done (by kernel_rfl) ?_
            refine hN16 _ _ ?_
            refine gT [box br _, rowl _ _ _ _ _ _, fr, box b3 _, box b49 _] rfl ?_
            refine gfrom [] trivial fun σ => ?_
            refine gseq fun N17 hN17 => ?_
            refine greg ?_
            refine gop (y_assign (v := .int _ _) rfl) rfl rfl rfl ?_
            refine gops_nil ?_
            refine hN17 _ _ ?_
            refine gfrom [(4, .int _ _)] ⟨rfl, trivial⟩ fun σ => ?_
            refine gret fun w1 hM => ?_
            refine ⟨_, res1 rfl (rt (v := .int _ _) rfl), ?_⟩
            rw [hS]
            exact ⟨tA, tc, A50, c50, _, rfl, htb, .inl ⟨rfl, rfl⟩, hM⟩
      · 
        have hg23d := of_decide_eq_true hg23
        refine gq_off rfl rfl rfl rfl hg23 rfl rfl ?_
        refine gq_off rfl rfl rfl rfl hg23 rfl rfl ?_
        refine gq_off rfl rfl rfl rfl hg23 rfl rfl ?_
        refine gq_off rfl rfl rfl rfl hg23 rfl rfl ?_
        refine gq_off rfl rfl rfl rfl hg23 rfl rfl ?_
        refine gq_off rfl rfl rfl rfl hg23 rfl rfl ?_
        refine gq_off rfl rfl rfl rfl hg23 rfl rfl ?_
        refine gq (y_pick_t (v := .bool _) rfl hg23 rfl) rfl rfl rfl ?_
        refine gqs_nil ?_
        refine hN11 _ _ ?_
        refine gfrom [(0, .pointer _), (3, .pointer _), (32, .bool _)] ⟨rfl, rfl, rfl, trivial⟩ fun σ => ?_
        refine gcond (b := _) rfl (fun hc32 => ?_) (fun hc32 => ?_)
        · 
          have hS : stepE (l, text) x.pl = (3, (l, text)) := by rw [stepE_open (e := x.pl) hc10 hc18, if_pos (show x.pl.line < 0 ∨ (text.length : Int) ≤ x.pl.line from by show x.line < 0 ∨ _ ≤ x.line; omega)]
          refine gseq fun N18 hN18 => ?_
          refine greg ?_
          refine gop (y_assign (v := .int _ _) rfl) rfl rfl rfl ?_
          refine gops_nil ?_
          refine hN18 _ _ ?_
          refine gfrom [(4, .int _ _)] ⟨rfl, trivial⟩ fun σ => ?_
          refine gret fun w1 hM => ?_
          refine ⟨_, res1 rfl (rt (v := .int _ _) rfl), ?_⟩
          rw [hS]
          exact ⟨tA, tc, _, _, _, rfl, htb, .inl ⟨rfl, rfl⟩, hM⟩
        · 
          cases hc32
    · 
      replace hc18 := of_decide_eq_false hc18
      refine gseq fun N19 hN19 => ?_
      refine greg ?_
      refine gop (y_eql rfl rfl) rfl rfl rfl ?_
      refine gop (y_assign (v := .bool _) rfl) rfl rfl rfl ?_
      refine gops_nil ?_
      refine hN19 _ _ ?_
      refine gfrom [(0, .pointer _), (3, .pointer _), (6, .pointer _), (53, .bool _)] ⟨rfl, rfl, rfl, rfl, trivial⟩ fun σ => ?_
      refine gcond (b := _) rfl (fun hc53 => ?_) (fun hc53 => ?_)
      · 
        replace hc53 := of_decide_eq_true hc53
        have hS : stepE (l, text) x.pl = patchT (l, text) (pls x.hs) := stepE_patch (e := x.pl) hc10 hc53
        refine gseq fun N20 hN20 => ?_
        refine greg ?_
        refine gop (y_move (v := .pointer _) rfl) rfl rfl rfl ?_
        refine gop (y_fieldAddr_box fa29_5 rfl) rfl rfl rfl ?_
        refine gop (y_loads (cs := [_]) Tryz.isAgg27 Tryz.sizeOf27 rfl rfl (cells_of1 (cell_box 3 rfl rfl))) rfl rfl rfl ?_
        refine gop_does2 0 1 (fun v r s G => ∃ tA' tc' hA' hc', v = .int .i64 (patchT (l, text) (pls x.hs)).1 ∧ r = box br (.cells #[.slice tA' ((patchT (l, text) (pls x.hs)).2.2).length tc', .slice hA' ((patchT (l, text) (pls x.hs)).2.1).length hc'] 98) ∧ s = rowl thrCells w0.heap.size 39 5 (.slice hA' (patchT (l, text) (pls x.hs)).2.1.length hc') ((patchT (l, text) (pls x.hs)).2.1) ∧ SB tA' (patchT (l, text) (pls x.hs)).2.2.length tc' 16 ∧ ((tA' = tA ∧ (patchT (l, text) (pls x.hs)).2.2 = text) ∨ ∀ w1, (∀ r ∈ G, r.ok w1) → Rdl w1 w0.heap.size 1 strCells tA' (patchT (l, text) (pls x.hs)).2.2)) (e_call (vs := [.pointer _, .agg #[_]]) Tryz.func61 rfl (by kernel_rfl) rfl) rfl rfl rfl (fun w fr1 hfr hM => (patch_any w0 w br tc hc tA hA text l fr1 hM (fun w1 h => htx w1 (hfr 2 fr rfl (by decide) (by decide) w1 h)) htb x.A x.c x.hs hx.pat hi).mono fun _ _ ⟨tA', tc', hA', hc', G, h1, h2, h3, h4⟩ => ⟨_, _, _, G, h1, ⟨tA', tc', hA', hc', rfl, rfl, rfl, h2, h3⟩, h4⟩) rfl rfl rfl ?_
        rintro _ _ _ G ⟨tA2, tc2, hA2, hc2, rfl, rfl, rfl, hsb2, hdj⟩
        refine gop (y_assign (v := .int _ _) rfl) rfl rfl rfl ?_
        refine gops_nil ?_
        refine hN20 _ _ ?_
        refine gfrom [(4, .int _ _)] ⟨rfl, trivial⟩ fun σ => ?_
        refine gret fun w1 hM => ?_
        refine ⟨_, res1 rfl (rt (v := .int _ _) rfl), ?_⟩
        rw [hS]
        exact ⟨tA2, tc2, hA2, hc2, _, rfl, hsb2, hdj.imp_right (fun h w1 h1 => h w1 (fun r hr => h1 r (List.mem_cons_of_mem _ hr))), hM⟩
      · 
        replace hc53 := of_decide_eq_false hc53
        refine gskip ?_
        refine hN7 _ _ ?_
        refine gfrom [(3, .pointer _), (6, .pointer _)] ⟨rfl, rfl, trivial⟩ fun σ => ?_
        refine gseq fun N21 hN21 => ?_
        refine gseq fun N22 hN22 => ?_
        refine greg ?_
        refine gop (y_move (v := .pointer _) rfl) rfl rfl rfl ?_
        refine gop (y_eqlptr Tryz.underlying129 rfl rfl) rfl rfl rfl ?_
        refine gops_nil ?_
        refine hN22 _ _ ?_
        refine gfrom [(3, .pointer _), (6, .pointer _), (60, .bool _)] ⟨rfl, rfl, rfl, trivial⟩ fun σ => ?_
        refine gcond (b := _) rfl (fun hc60 => ?_) (fun hc60 => ?_)
        · 
          have hS : stepE (l, text) x.pl = (6, (l, text)) := stepE_miss (e := x.pl) hc10 hc18 hc53 (thrP_none hsome hc60)
          refine gseq fun N23 hN23 => ?_
          refine greg ?_
          refine gop (y_assign (v := .int _ _) rfl) rfl rfl rfl ?_
          refine gops_nil ?_
          refine hN23 _ _ ?_
          refine gfrom [(4, .int _ _)] ⟨rfl, trivial⟩ fun σ => ?_
          refine gret fun w1 hM => ?_
          refine ⟨_, res1 rfl (rt (v := .int _ _) rfl), ?_⟩
          rw [hS]
          exact ⟨tA, tc, _, _, _, rfl, htb, .inl ⟨rfl, rfl⟩, hM⟩
        · 
          have hr := thrP_some hc60
          obtain ⟨t, ht⟩ : ∃ t, l[x.thread.toNat]? = some t := ⟨_, List.getElem?_eq_getElem (by omega)⟩
          have hS0 := stepE_hit (s := (l, text)) (e := x.pl) hc10 hc18 hc53 hr.1 ht
          have htm : t ∈ l := List.mem_of_getElem? ht
          have hc1 := hi.clo t htm
          have hc2 := hi.chi t htm
          refine g_fact (fun w hM => own_some (hM.own 1 rfl) (by omega)) ?_
          rintro ⟨rg, cg, hvg, -, -⟩
          simp only [Value.slice.injEq] at hvg
          obtain ⟨rfl, -, rfl⟩ := hvg
          have hthr : thrP (some ⟨rg, 0, none⟩) l.length x.thread = some ((⟨rg, 0, none⟩ : Addr).add (x.thread.toNat * 5)) := by rw [thrP, if_pos hr]; rfl
          rw [hthr]
          refine gskip ?_
          refine hN21 _ _ ?_
          refine gfrom [(3, .pointer _), (6, .pointer _)] ⟨rfl, rfl, trivial⟩ fun σ => ?_
          refine gseq fun N24 hN24 => ?_
          refine gseq fun N25 hN25 => ?_
          refine greg ?_
          refine gop (y_fieldAddr_box fa29_0 rfl) rfl rfl rfl ?_
          refine gop (y_load Tryz.isAgg3 rfl (cell_box 3 rfl rfl)) rfl rfl rfl ?_
          refine gop (y_eql rfl rfl) rfl rfl rfl ?_
          refine gops_nil ?_
          refine hN25 _ _ ?_
          refine gfrom [(3, .pointer _), (6, .pointer _), (63, .bool _)] ⟨rfl, rfl, rfl, trivial⟩ fun σ => ?_
          refine gcond (b := _) rfl (fun hc63 => ?_) (fun hc63 => ?_)
          · 
            replace hc63 := of_decide_eq_true hc63
            have hS : stepE (l, text) x.pl = (0, (l.set x.thread.toNat { t with comments := t.comments + 1, resolved := false }, text)) := by rw [hS0, if_pos (show x.pl.kind = 2 from hc63)]
            refine gseq fun N26 hN26 => ?_
            refine greg ?_
            refine gop (y_move (v := .pointer _) rfl) rfl rfl rfl ?_
            refine gop (y_nilCheck rfl) rfl rfl rfl ?_
            refine gop (y_fieldAddr_add fa39_2 rfl) rfl rfl rfl ?_
            refine gop (y_load Tryz.isAgg3 rfl (cells_rowl 1 (f := thrCells) (l := l) rfl rfl (fun _ => rfl) ht 2 _ rfl)) rfl rfl rfl ?_
            refine gop (y_add rfl rfl ⟨by omega, by omega⟩) rfl rfl rfl ?_
            refine gop (y_nilCheck rfl) rfl rfl rfl ?_
            refine gop (y_fieldAddr_add fa39_2 rfl) rfl rfl rfl ?_
            refine gop_store_row 1 (f := thrCells) (l := l) (k := x.thread.toNat) (o := 2) (v := .int _ _) (a := t) (a' := { t with comments := t.comments + 1 }) (fun _ => rfl) rfl rfl rfl Tryz.sizeOf3 rfl rfl rfl rfl rfl ht (Nat.le_of_ble_eq_true rfl) rfl rfl ?_
            refine gops_nil ?_
            refine hN26 _ _ ?_
            refine gT [box br _, rowl _ _ _ _ _ _, fr, box b3 _] rfl ?_
            refine gfrom [(6, .pointer _)] ⟨rfl, trivial⟩ fun σ => ?_
            refine gseq fun N27 hN27 => ?_
            refine greg ?_
            refine gop (y_move (v := .pointer _) rfl) rfl rfl rfl ?_
            refine gop (y_nilCheck rfl) rfl rfl rfl ?_
            refine gop (y_fieldAddr_add fa39_4 rfl) rfl rfl rfl ?_
            refine gop_store_row 1 (f := thrCells) (l := l.set x.thread.toNat { t with comments := t.comments + 1 }) (k := x.thread.toNat) (o := 4) (v := .bool _) (a := { t with comments := t.comments + 1 }) (a' := { t with comments := t.comments + 1, resolved := false }) (fun _ => rfl) rfl rfl rfl Tryz.sizeOf4 rfl rfl rfl rfl (by simp) (by rw [List.getElem?_set_self (List.getElem?_eq_some_iff.1 ht).1]) (Nat.le_of_ble_eq_true rfl) rfl rfl ?_
            refine gops_nil ?_
            refine hN27 _ _ ?_
            refine gT [box br _, rowl _ _ _ _ _ _, fr, box b3 _] rfl ?_
            refine gfrom [] trivial fun σ => ?_
            refine gseq fun N28 hN28 => ?_
            refine greg ?_
            refine gop (y_assign (v := .int _ _) rfl) rfl rfl rfl ?_
            refine gops_nil ?_
            refine hN28 _ _ ?_
            refine gfrom [(4, .int _ _)] ⟨rfl, trivial⟩ fun σ => ?_
            refine gret fun w1 hM => ?_
            refine ⟨_, res1 rfl (rt (v := .int _ _) rfl), ?_⟩
            rw [hS]
            rw [List.set_set] at hM
            have e1 : l.length = (l.set x.thread.toNat { t with comments := t.comments + 1, resolved := false }).length := by simp
            rw [e1] at hM
            exact ⟨tA, tc, _, _, _, rfl, htb, .inl ⟨rfl, rfl⟩, hM⟩
          · 
            replace hc63 := of_decide_eq_false hc63
            rw [if_neg (show ¬ x.pl.kind = 2 from hc63)] at hS0
            refine gskip ?_
            refine hN24 _ _ ?_
            refine gfrom [(3, .pointer _), (6, .pointer _)] ⟨rfl, rfl, trivial⟩ fun σ => ?_
            refine gseq fun N29 hN29 => ?_
            refine gseq fun N30 hN30 => ?_
            refine greg ?_
            refine gop (y_move (v := .pointer _) rfl) rfl rfl rfl ?_
            refine gop (y_nilCheck rfl) rfl rfl rfl ?_
            refine gop (y_fieldAddr_add fa39_4 rfl) rfl rfl rfl ?_
            refine gop (y_load Tryz.isAgg4 rfl (cells_rowl 1 (f := thrCells) (l := l) rfl rfl (fun _ => rfl) ht 4 _ rfl)) rfl rfl rfl ?_
            refine gops_nil ?_
            refine hN30 _ _ ?_
            refine gfrom [(3, .pointer _), (6, .pointer _), (77, .bool _)] ⟨rfl, rfl, rfl, trivial⟩ fun σ => ?_
            refine gcond (b := _) rfl (fun hc77 => ?_) (fun hc77 => ?_)
            · 
              have hS : stepE (l, text) x.pl = (11, (l, text)) := by rw [hS0, if_pos hc77]
              refine gseq fun N31 hN31 => ?_
              refine greg ?_
              refine gop (y_assign (v := .int _ _) rfl) rfl rfl rfl ?_
              refine gops_nil ?_
              refine hN31 _ _ ?_
              refine gfrom [(4, .int _ _)] ⟨rfl, trivial⟩ fun σ => ?_
              refine gret fun w1 hM => ?_
              refine ⟨_, res1 rfl (rt (v := .int _ _) rfl), ?_⟩
              rw [hS]
              exact ⟨tA, tc, _, _, _, rfl, htb, .inl ⟨rfl, rfl⟩, hM⟩
            · 
              rw [if_neg (by simp [hc77])] at hS0
              refine gskip ?_
              refine hN29 _ _ ?_
              refine gfrom [(3, .pointer _), (6, .pointer _)] ⟨rfl, rfl, trivial⟩ fun σ => ?_
              refine gseq fun N32 hN32 => ?_
              refine gseq fun N33 hN33 => ?_
              refine greg_q (by kernel_rfl) (by kernel_rfl) ?_
              refine gq (y_move (v := .pointer _) rfl) rfl rfl rfl ?_
              refine gq (y_nilCheck rfl) rfl rfl rfl ?_
              refine gq (y_fieldAddr_add fa39_0 rfl) rfl rfl rfl ?_
              refine gq (y_load Tryz.isAgg3 rfl (cells_rowl 1 (f := thrCells) (l := l) rfl rfl (fun _ => rfl) ht 0 _ rfl)) rfl rfl rfl ?_
              refine gq (y_fieldAddr_box fa29_1 rfl) rfl rfl rfl ?_
              refine gq (y_load Tryz.isAgg3 rfl (cell_box 3 rfl rfl)) rfl rfl rfl ?_
              refine gq (y_neq rfl rfl) rfl rfl rfl ?_
              refine gqs_nil ?_
              refine hN33 _ _ ?_
              refine gfrom [(6, .pointer _), (84, .bool _)] ⟨rfl, rfl, trivial⟩ fun σ => ?_
              refine gcond (b := _) rfl (fun hc84 => ?_) (fun hc84 => ?_)
              · 
                replace hc84 := of_decide_eq_true hc84
                have hS : stepE (l, text) x.pl = (13, (l, text)) := by rw [hS0, if_pos (show t.user ≠ x.pl.user from hc84)]
                refine gseq fun N34 hN34 => ?_
                refine greg ?_
                refine gop (y_assign (v := .int _ _) rfl) rfl rfl rfl ?_
                refine gops_nil ?_
                refine hN34 _ _ ?_
                refine gfrom [(4, .int _ _)] ⟨rfl, trivial⟩ fun σ => ?_
                refine gret fun w1 hM => ?_
                refine ⟨_, res1 rfl (rt (v := .int _ _) rfl), ?_⟩
                rw [hS]
                exact ⟨tA, tc, _, _, _, rfl, htb, .inl ⟨rfl, rfl⟩, hM⟩
              · 
                replace hc84 := Decidable.not_not.1 (of_decide_eq_false hc84)
                have hS : stepE (l, text) x.pl = (0, (l.set x.thread.toNat { t with resolved := true }, text)) := by rw [hS0, if_neg (show ¬ t.user ≠ x.pl.user from fun h => h hc84)]
                refine gskip ?_
                refine hN32 _ _ ?_
                refine gfrom [(6, .pointer _)] ⟨rfl, trivial⟩ fun σ => ?_
                refine gseq fun N35 hN35 => ?_
                refine greg ?_
                refine gop (y_move (v := .pointer _) rfl) rfl rfl rfl ?_
                refine gop (y_nilCheck rfl) rfl rfl rfl ?_
                refine gop (y_fieldAddr_add fa39_4 rfl) rfl rfl rfl ?_
                refine gop_store_row 1 (f := thrCells) (l := l) (k := x.thread.toNat) (o := 4) (v := .bool _) (a := t) (a' := { t with resolved := true }) (fun _ => rfl) rfl rfl rfl Tryz.sizeOf4 rfl rfl rfl rfl rfl ht (Nat.le_of_ble_eq_true rfl) rfl rfl ?_
                refine gops_nil ?_
                refine hN35 _ _ ?_
                refine gT [box br _, rowl _ _ _ _ _ _, fr, box b3 _] rfl ?_
                refine gfrom [] trivial fun σ => ?_
                refine gseq fun N36 hN36 => ?_
                refine greg ?_
                refine gop (y_assign (v := .int _ _) rfl) rfl rfl rfl ?_
                refine gops_nil ?_
                refine hN36 _ _ ?_
                refine gfrom [(4, .int _ _)] ⟨rfl, trivial⟩ fun σ => ?_
                refine gret fun w1 hM => ?_
                refine ⟨_, res1 rfl (rt (v := .int _ _) rfl), ?_⟩
                rw [hS]
                have e1 : l.length = (l.set x.thread.toNat { t with resolved := true }).length := by simp
                rw [e1] at hM
                exact ⟨tA, tc, _, _, _, rfl, htb, .inl ⟨rfl, rfl⟩, hM⟩
end Go.Proofs.YtbkameioedmlkaaGreatDoor
