/- walks, printed by program -/
import Derived.Test.YtbaojdiccikbiaaInvA
import Derived.Test.YtbaojdiccikbiaaPatchP
namespace Go.Proofs.Ytbaojdiccikbiaa
open Go.RowKit Go.Cf
set_option maxRecDepth 10000



set_option maxHeartbeats 1000000 in
theorem equal_any (w : World) (A B : Option Addr) (c c' : Nat) (l m : List ByteArray) (hA : Rdl w 0 1 strCells A l) (hB : Rdl w 0 1 strCells B m) (n : Nat) (hn : n = l.length) (hl : l.length ≤ maxLen) :
    Calls Try.prog 51 #[.slice A n c, .slice B m.length c'] w fun e w' => e = .returned (.bool (decide (l = m))) ∧ Below w.heap.size w w' := by
  subst hn
  unfold maxLen at hl
  refine gcalls Try.func51 rfl Try.ntmps51 (Nat.le_of_ble_eq_true rfl) ?_
  refine gfrom [(0, .slice _ _ _), (1, .slice _ _ _)] ⟨rfl, rfl, trivial⟩ fun σ => ?_
  refine gseq fun N1 hN1 => ?_
  refine greg ?_
  refine gop (y_assign (v := .bool _) rfl) rfl rfl rfl ?_
  refine gops_nil ?_
  refine hN1 _ _ ?_
  refine gfrom [(0, .slice _ _ _), (1, .slice _ _ _)] ⟨rfl, rfl, trivial⟩ fun σ => ?_
  refine gseq fun N2 hN2 => ?_
  refine gseq fun N3 hN3 => ?_
  refine greg ?_
  refine gop (y_move (v := .slice _ _ _) rfl) rfl rfl rfl ?_
  refine gop (y_len Try.underlying41 rfl) rfl rfl rfl ?_
  refine gop (y_move (v := .slice _ _ _) rfl) rfl rfl rfl ?_
  refine gop (y_len Try.underlying41 rfl) rfl rfl rfl ?_
  refine gop (y_neq rfl rfl) rfl rfl rfl ?_
  refine gops_nil ?_
  refine hN3 _ _ ?_
  refine gfrom [(0, .slice _ _ _), (1, .slice _ _ _), (10, .bool _)] ⟨rfl, rfl, rfl, trivial⟩ fun σ => ?_
  refine gcond (b := _) rfl (fun hc10 => ?_) (fun hc10 => ?_)
  · -- slot 10 t
    replace hc10 := of_decide_eq_true hc10
    refine gseq fun N4 hN4 => ?_
    refine greg ?_
    refine gop (y_assign (v := .bool _) rfl) rfl rfl rfl ?_
    refine gops_nil ?_
    refine hN4 _ _ ?_
    refine gfrom [(4, .bool _)] ⟨rfl, trivial⟩ fun σ => ?_
    refine gret fun w1 hM => ?_
    refine ⟨_, res1 rfl (rt (v := .bool _) rfl), ?_⟩
    exact ⟨by rw [decide_eq_false (fun e => by subst e; omega)], hM.low⟩
  · -- slot 10 f
    replace hc10 := Decidable.not_not.1 (of_decide_eq_false hc10)
    refine gskip ?_
    refine hN2 _ _ ?_
    refine gfrom [(0, .slice _ _ _), (1, .slice _ _ _)] ⟨rfl, rfl, trivial⟩ fun σ => ?_
    refine gseq fun N5 hN5 => ?_
    refine gseq fun N6 hN6 => ?_
    refine greg ?_
    refine gop (y_move (v := .slice _ _ _) rfl) rfl rfl rfl ?_
    refine gop (y_len Try.underlying41 rfl) rfl rfl rfl ?_
    refine gop (y_move (v := .int _ _) rfl) rfl rfl rfl ?_
    refine gops_nil ?_
    refine hN6 _ _ ?_
    refine gfrom [(0, .slice _ _ _), (1, .slice _ _ _), (12, .int _ _), (13, .int _ _)] ⟨rfl, rfl, rfl, rfl, trivial⟩ fun σ => ?_
    refine gblock ?_
    refine gfrom2 [(13, .int _ _)] [(0, .slice _ _ _), (1, .slice _ _ _), (12, .int _ _)] ⟨rfl, trivial⟩ ⟨rfl, rfl, rfl, trivial⟩ fun σ => ?_
    refine gloop2 (G := Nat) (fun k => k ≤ l.length ∧ l.length = m.length ∧ l.take k = m.take k) (fun k => l.length - k) (fun k => [(13, .int .i64 (k : Int))]) (fun k => []) (0) ?h0 ⟨rfl, trivial⟩ ⟨rfl, rfl, rfl, trivial⟩ rfl ?round
    case h0 => exact ⟨Nat.zero_le _, by omega, by simp⟩
    case round =>
      intro k hφ σ
      obtain ⟨hk, hlm, htk⟩ := hφ
      refine gseq fun N7 hN7 => ?_
      refine greg ?_
      refine gop (y_lss rfl rfl) rfl rfl rfl ?_
      refine gops_nil ?_
      refine hN7 _ _ ?_
      refine gfrom [(0, .slice _ _ _), (1, .slice _ _ _), (12, .int _ _), (13, .int _ _), (14, .bool _)] ⟨rfl, rfl, rfl, rfl, rfl, trivial⟩ fun σ => ?_
      refine gseq fun N8 hN8 => ?_
      refine gcond (b := _) rfl (fun hc14 => ?_) (fun hc14 => ?_)
      · -- slot 14 t
        replace hc14 := of_decide_eq_true hc14
        have hk1 : k < l.length := by omega
        obtain ⟨ad, rfl, -, hca⟩ := hA.at_ hk1
        obtain ⟨ad', rfl, -, hcb⟩ := hB.at_ (k := k) (by omega)
        refine gskip ?_
        refine hN8 _ _ ?_
        refine gfrom [(0, .slice _ _ _), (1, .slice _ _ _), (12, .int _ _), (13, .int _ _)] ⟨rfl, rfl, rfl, rfl, trivial⟩ fun σ => ?_
        refine gseq fun N9 hN9 => ?_
        refine gblock ?_
        refine gseq fun N10 hN10 => ?_
        refine greg ?_
        refine gop (y_move (v := .int _ _) rfl) rfl rfl rfl ?_
        refine gop (y_assign (v := .int _ _) rfl) rfl rfl rfl ?_
        refine gops_nil ?_
        refine hN10 _ _ ?_
        refine gfrom [(0, .slice _ _ _), (1, .slice _ _ _), (5, .int _ _), (12, .int _ _), (13, .int _ _)] ⟨rfl, rfl, rfl, rfl, rfl, trivial⟩ fun σ => ?_
        refine gseq fun N11 hN11 => ?_
        refine greg_q (by kernel_rfl) (by kernel_rfl) ?_
        refine gq (y_move (v := .slice _ _ _) rfl) rfl rfl rfl ?_
        refine gq (y_move (v := .int _ _) rfl) rfl rfl rfl ?_
        refine gq (y_indexAddr Try.underlying41 Try.sizeOf9 rfl rfl rfl (by omega) (by omega)) rfl rfl rfl ?_
        refine gq (y_load Try.isAgg9 rfl (cell_base (hca 0 _ rfl))) rfl rfl rfl ?_
        refine gq (y_move (v := .slice _ _ _) rfl) rfl rfl rfl ?_
        refine gq (y_move (v := .int _ _) rfl) rfl rfl rfl ?_
        refine gq (y_indexAddr Try.underlying41 Try.sizeOf9 rfl rfl rfl (by omega) (by omega)) rfl rfl rfl ?_
        refine gq (y_load Try.isAgg9 rfl (cell_base (hcb 0 _ rfl))) rfl rfl rfl ?_
        refine gq (y_neqs rfl rfl) rfl rfl rfl ?_
        refine gqs_nil ?_
        refine hN11 _ _ ?_
        refine gfrom [(0, .slice _ _ _), (1, .slice _ _ _), (12, .int _ _), (13, .int _ _), (24, .bool _)] ⟨rfl, rfl, rfl, rfl, rfl, trivial⟩ fun σ => ?_
        refine gcond (b := _) rfl (fun hc24 => ?_) (fun hc24 => ?_)
        · -- slot 24 t
          replace hc24 := ba_ne_t hc24
          refine gseq fun N12 hN12 => ?_
          refine greg ?_
          refine gop (y_assign (v := .bool _) rfl) rfl rfl rfl ?_
          refine gops_nil ?_
          refine hN12 _ _ ?_
          refine gfrom [(4, .bool _)] ⟨rfl, trivial⟩ fun σ => ?_
          refine gret fun w1 hM => ?_
          refine ⟨_, res1 rfl (rt (v := .bool _) rfl), ?_⟩
          exact ⟨by rw [decide_eq_false (ne_of_at hk1 (by omega) hc24)], hM.low⟩
        · -- slot 24 f
          replace hc24 := ba_ne_f hc24
          refine gskip ?_
          refine hN9 _ _ ?_
          refine gfrom [(0, .slice _ _ _), (1, .slice _ _ _), (12, .int _ _), (13, .int _ _)] ⟨rfl, rfl, rfl, rfl, trivial⟩ fun σ => ?_
          refine greg ?_
          refine gop (y_add rfl rfl ⟨by omega, by omega⟩) rfl rfl rfl ?_
          refine gop (y_move (v := .int _ _) rfl) rfl rfl rfl ?_
          refine gops_nil ?_
          refine gnext2 (k + 1) (by omega) (⟨by omega, hlm, take_next l m k (by omega) (by omega) htk hc24⟩) ⟨rfl, trivial⟩ ⟨rfl, rfl, rfl, trivial⟩ ⟨_, rfl⟩
      · -- slot 14 f
        replace hc14 := of_decide_eq_false hc14
        refine gexit ?_
        refine hN5 _ _ ?_
        refine gfrom [] trivial fun σ => ?_
        refine gseq fun N13 hN13 => ?_
        refine greg ?_
        refine gop (y_assign (v := .bool _) rfl) rfl rfl rfl ?_
        refine gops_nil ?_
        refine hN13 _ _ ?_
        refine gfrom [(4, .bool _)] ⟨rfl, trivial⟩ fun σ => ?_
        refine gret fun w1 hM => ?_
        refine ⟨_, res1 rfl (rt (v := .bool _) rfl), ?_⟩
        exact ⟨by rw [decide_eq_true (eq_of_takes hlm (by omega) htk)], hM.low⟩

set_option maxHeartbeats 1000000 in
theorem occurs_any (w : World) (A : Option Addr) (c : Nat) (l : List ByteArray) (hl : Rdl w 0 1 strCells A l) (hlc : l.length ≤ c) (hcm : c ≤ maxLen) (B : Option Addr) (d : Nat) (m : List ByteArray) (hm : Rdl w 0 1 strCells B m) (hmm : m.length ≤ maxLen) (a : Int) : Calls Try.prog 39 #[.slice A l.length c, .slice B m.length d, .int .i64 a] w fun e w' => e = .returned (.bool (occ l m a)) ∧ Below w.heap.size w w' := by
  have hmx : maxLen = 9223372036854775807 := rfl
  refine gcalls Try.func39 rfl Try.ntmps39 (Nat.le_of_ble_eq_true rfl) ?_
  refine gfrom [(0, .slice _ _ _), (1, .slice _ _ _), (2, .int _ _)] ⟨rfl, rfl, rfl, trivial⟩ fun σ => ?_
  refine gseq fun N1 hN1 => ?_
  refine greg ?_
  refine gop (y_assign (v := .bool _) rfl) rfl rfl rfl ?_
  refine gops_nil ?_
  refine hN1 _ _ ?_
  refine gfrom [(0, .slice _ _ _), (1, .slice _ _ _), (2, .int _ _)] ⟨rfl, rfl, rfl, trivial⟩ fun σ => ?_
  refine gseq fun N2 hN2 => ?_
  refine greg ?_
  refine gop (y_move (v := .int _ _) rfl) rfl rfl rfl ?_
  refine gop (y_geq rfl rfl) rfl rfl rfl ?_
  refine gop (y_move (v := .bool _) rfl) rfl rfl rfl ?_
  refine gop_if (want := true) rfl rfl rfl rfl rfl rfl (fun hg9 => ?_) (fun hg9 => ?_)
  · -- guard 9 on
    have hg9d := of_decide_eq_true hg9
    refine gop (y_bare (y_move (v := .int _ _) rfl)) rfl rfl rfl ?_
    refine gop_on rfl rfl rfl rfl hg9 ?_
    refine gop (y_bare (y_move (v := .slice _ _ _) rfl)) rfl rfl rfl ?_
    refine gop_on rfl rfl rfl rfl hg9 ?_
    refine gop (y_bare (y_len Try.underlying41 rfl)) rfl rfl rfl ?_
    refine gop_on rfl rfl rfl rfl hg9 ?_
    refine gop (y_bare (y_leq rfl rfl)) rfl rfl rfl ?_
    refine gop (y_pick_t (v := .bool _) rfl hg9 rfl) rfl rfl rfl ?_
    refine gop (y_move (v := .bool _) rfl) rfl rfl rfl ?_
    refine gop_if (want := true) rfl rfl rfl rfl rfl rfl (fun hg15 => ?_) (fun hg15 => ?_)
    · -- guard 15 on
      have hg15d := of_decide_eq_true hg15
      refine gop (y_bare (y_move (v := .slice _ _ _) rfl)) rfl rfl rfl ?_
      refine gop_on rfl rfl rfl rfl hg15 ?_
      refine gop (y_bare (y_len Try.underlying41 rfl)) rfl rfl rfl ?_
      refine gop_on rfl rfl rfl rfl hg15 ?_
      refine gop (y_bare (y_move (v := .slice _ _ _) rfl)) rfl rfl rfl ?_
      refine gop_on rfl rfl rfl rfl hg15 ?_
      refine gop (y_bare (y_len Try.underlying41 rfl)) rfl rfl rfl ?_
      refine gop_on rfl rfl rfl rfl hg15 ?_
      refine gop (y_bare (y_move (v := .int _ _) rfl)) rfl rfl rfl ?_
      refine gop_on rfl rfl rfl rfl hg15 ?_
      refine gop (y_bare (y_sub rfl rfl ⟨by omega, by omega⟩)) rfl rfl rfl ?_
      refine gop_on rfl rfl rfl rfl hg15 ?_
      refine gop (y_bare (y_leq rfl rfl)) rfl rfl rfl ?_
      refine gop (y_pick_t (v := .bool _) rfl hg15 rfl) rfl rfl rfl ?_
      refine gop (y_move (v := .bool _) rfl) rfl rfl rfl ?_
      refine gop_if (want := true) rfl rfl rfl rfl rfl rfl (fun hg24 => ?_) (fun hg24 => ?_)
      · -- guard 24 on
        have hg24d := of_decide_eq_true hg24
        have he : (a + m.length).toNat - a.toNat = m.length := by omega
        refine gop (y_bare (y_move (v := .slice _ _ _) rfl)) rfl rfl rfl ?_
        refine gop_on rfl rfl rfl rfl hg24 ?_
        refine gop (y_bare (y_move (v := .int _ _) rfl)) rfl rfl rfl ?_
        refine gop_on rfl rfl rfl rfl hg24 ?_
        refine gop (y_bare (y_move (v := .int _ _) rfl)) rfl rfl rfl ?_
        refine gop_on rfl rfl rfl rfl hg24 ?_
        refine gop (y_bare (y_move (v := .slice _ _ _) rfl)) rfl rfl rfl ?_
        refine gop_on rfl rfl rfl rfl hg24 ?_
        refine gop (y_bare (y_len Try.underlying41 rfl)) rfl rfl rfl ?_
        refine gop_on rfl rfl rfl rfl hg24 ?_
        refine gop (y_bare (y_add rfl rfl ⟨by omega, by omega⟩)) rfl rfl rfl ?_
        refine gop_on rfl rfl rfl rfl hg24 ?_
        refine gop (y_bare (y_slice Try.underlying41 Try.sizeOf9 rfl rfl rfl (by omega) (by omega) (by omega))) rfl rfl rfl ?_
        refine gop_on rfl rfl rfl rfl hg24 ?_
        refine gop (y_bare (y_move (v := .slice _ _ _) rfl)) rfl rfl rfl ?_
        refine gop_on rfl rfl rfl rfl hg24 ?_
        refine gop_pure (e_call (vs := [.slice _ _ _, .slice _ _ _]) Try.func51 rfl (by kernel_rfl) rfl) (fun w hM => equal_any w _ _ _ _ ((l.drop a.toNat).take ((a + m.length).toNat - a.toNat)) m ((hl.cut (i := a.toNat) (j := (a + m.length).toNat) (cap := c) (by omega) (by omega) hlc).base hM) (hm.base hM) _ (by simp; omega) (by simp; omega)) rfl rfl rfl ?_
        refine gop (y_pick_t (v := .bool _) rfl hg24 rfl) rfl rfl rfl ?_
        refine gop (y_assign (v := .bool _) rfl) rfl rfl rfl ?_
        refine gops_nil ?_
        refine hN2 _ _ ?_
        refine gfrom [(6, .bool _)] ⟨rfl, trivial⟩ fun σ => ?_
        refine gret fun w1 hM => ?_
        refine ⟨_, res1 rfl (rt (v := .bool _) rfl), ?_⟩
        first | exact ⟨by rw [he]; simp [occ, hg9d, hg15d, hg24d], hM.low⟩ | exact ⟨by rw [show occ l m a = false from by unfold occ; simp; intros; omega], hM.low⟩
      · -- guard 24 off
        have hg24d := of_decide_eq_false hg24
        refine gop_off rfl rfl rfl rfl hg24 rfl rfl ?_
        refine gop_off rfl rfl rfl rfl hg24 rfl rfl ?_
        refine gop_off rfl rfl rfl rfl hg24 rfl rfl ?_
        refine gop_off rfl rfl rfl rfl hg24 rfl rfl ?_
        refine gop_off rfl rfl rfl rfl hg24 rfl rfl ?_
        refine gop_off rfl rfl rfl rfl hg24 rfl rfl ?_
        refine gop_off rfl rfl rfl rfl hg24 rfl rfl ?_
        refine gop_off rfl rfl rfl rfl hg24 rfl rfl ?_
        refine gop (y_pick_f (v := .bool _) rfl hg24 rfl) rfl rfl rfl ?_
        refine gop (y_assign (v := .bool _) rfl) rfl rfl rfl ?_
        refine gops_nil ?_
        refine hN2 _ _ ?_
        refine gfrom [(6, .bool _)] ⟨rfl, trivial⟩ fun σ => ?_
        refine gret fun w1 hM => ?_
        refine ⟨_, res1 rfl (rt (v := .bool _) rfl), ?_⟩
        first | exact ⟨by rw [he]; simp [occ, hg9d, hg15d, hg24d], hM.low⟩ | exact ⟨by rw [show occ l m a = false from by unfold occ; simp; intros; omega], hM.low⟩
    · -- guard 15 off
      have hg15d := of_decide_eq_false hg15
      refine gop_off rfl rfl rfl rfl hg15 rfl rfl ?_
      refine gop_off rfl rfl rfl rfl hg15 rfl rfl ?_
      refine gop_off rfl rfl rfl rfl hg15 rfl rfl ?_
      refine gop_off rfl rfl rfl rfl hg15 rfl rfl ?_
      refine gop_off rfl rfl rfl rfl hg15 rfl rfl ?_
      refine gop_off rfl rfl rfl rfl hg15 rfl rfl ?_
      refine gop (y_pick_f (v := .bool _) rfl hg15 rfl) rfl rfl rfl ?_
      refine gop (y_move (v := .bool _) rfl) rfl rfl rfl ?_
      refine gop_off rfl rfl rfl rfl rfl rfl rfl ?_
      refine gop_off rfl rfl rfl rfl rfl rfl rfl ?_
      refine gop_off rfl rfl rfl rfl rfl rfl rfl ?_
      refine gop_off rfl rfl rfl rfl rfl rfl rfl ?_
      refine gop_off rfl rfl rfl rfl rfl rfl rfl ?_
      refine gop_off rfl rfl rfl rfl rfl rfl rfl ?_
      refine gop_off rfl rfl rfl rfl rfl rfl rfl ?_
      refine gop_off rfl rfl rfl rfl rfl rfl rfl ?_
      refine gop_off rfl rfl rfl rfl rfl rfl rfl ?_
      refine gop (y_pick_f (v := .bool _) rfl rfl rfl) rfl rfl rfl ?_
      refine gop (y_assign (v := .bool _) rfl) rfl rfl rfl ?_
      refine gops_nil ?_
      refine hN2 _ _ ?_
      refine gfrom [(6, .bool _)] ⟨rfl, trivial⟩ fun σ => ?_
      refine gret fun w1 hM => ?_
      refine ⟨_, res1 rfl (rt (v := .bool _) rfl), ?_⟩
      first | exact ⟨by rw [he]; simp [occ, hg9d, hg15d, hg24d], hM.low⟩ | exact ⟨by rw [show occ l m a = false from by unfold occ; simp; intros; omega], hM.low⟩
  · -- guard 9 off
    have hg9d := of_decide_eq_false hg9
    refine gop_off rfl rfl rfl rfl hg9 rfl rfl ?_
    refine gop_off rfl rfl rfl rfl hg9 rfl rfl ?_
    refine gop_off rfl rfl rfl rfl hg9 rfl rfl ?_
    refine gop (y_pick_f (v := .bool _) rfl hg9 rfl) rfl rfl rfl ?_
    refine gop (y_move (v := .bool _) rfl) rfl rfl rfl ?_
    refine gop_off rfl rfl rfl rfl rfl rfl rfl ?_
    refine gop_off rfl rfl rfl rfl rfl rfl rfl ?_
    refine gop_off rfl rfl rfl rfl rfl rfl rfl ?_
    refine gop_off rfl rfl rfl rfl rfl rfl rfl ?_
    refine gop_off rfl rfl rfl rfl rfl rfl rfl ?_
    refine gop_off rfl rfl rfl rfl rfl rfl rfl ?_
    refine gop_off rfl rfl rfl rfl rfl rfl rfl ?_
    refine gop (y_pick_f (v := .bool _) rfl rfl rfl) rfl rfl rfl ?_
    refine gop (y_move (v := .bool _) rfl) rfl rfl rfl ?_
    refine gop_off rfl rfl rfl rfl rfl rfl rfl ?_
    refine gop_off rfl rfl rfl rfl rfl rfl rfl ?_
    refine gop_off rfl rfl rfl rfl rfl rfl rfl ?_
    refine gop_off rfl rfl rfl rfl rfl rfl rfl ?_
    refine gop_off rfl rfl rfl rfl rfl rfl rfl ?_
    refine gop_off rfl rfl rfl rfl rfl rfl rfl ?_
    refine gop_off rfl rfl rfl rfl rfl rfl rfl ?_
    refine gop_off rfl rfl rfl rfl rfl rfl rfl ?_
    refine gop_off rfl rfl rfl rfl rfl rfl rfl ?_
    refine gop (y_pick_f (v := .bool _) rfl rfl rfl) rfl rfl rfl ?_
    refine gop (y_assign (v := .bool _) rfl) rfl rfl rfl ?_
    refine gops_nil ?_
    refine hN2 _ _ ?_
    refine gfrom [(6, .bool _)] ⟨rfl, trivial⟩ fun σ => ?_
    refine gret fun w1 hM => ?_
    refine ⟨_, res1 rfl (rt (v := .bool _) rfl), ?_⟩
    first | exact ⟨by rw [he]; simp [occ, hg9d, hg15d, hg24d], hM.low⟩ | exact ⟨by rw [show occ l m a = false from by unfold occ; simp; intros; omega], hM.low⟩

set_option maxHeartbeats 2000000 in
theorem raw_any (w : World) (A : Option Addr) (c : Nat) (hs : List HunkC) (hp : PatR w 0 A c hs) (B : Option Addr) (d : Nat) (text : List ByteArray) (ht : Rdl w 0 1 strCells B text) (htb : SB B text.length d 16) (v : PV (pls hs)) (htl : text.length ≤ 120) (hends : ∀ h ∈ pls hs, h.end_ ≤ text.length) :
    Calls Try.prog 40 #[.slice A hs.length c, .slice B text.length d, .int .i64 0, .int .i64 text.length] w fun e w' => ∃ v' T', e = .returned v' ∧ T' = [rowl strCells w.heap.size 9 1 v' (rawFrom 0 (pls hs) text)] ∧ Mem w T' w' := by
  have hvl : hs.length ≤ 130 := by simpa using v.len
  have htc := htb.len
  have htm := htb.max
  have hmx : maxLen = 9223372036854775807 := rfl
  refine gcalls Try.func40 rfl Try.ntmps40 (Nat.le_of_ble_eq_true rfl) ?_
  refine gfrom [(0, .slice _ _ _), (1, .slice _ _ _), (2, .int _ _), (3, .int _ _)] ⟨rfl, rfl, rfl, rfl, trivial⟩ fun σ => ?_
  refine gseq fun N1 hN1 => ?_
  refine greg ?_
  refine gop (y_assign (v := .slice _ _ _) rfl) rfl rfl rfl ?_
  refine gops_nil ?_
  refine hN1 _ _ ?_
  refine gfrom [(0, .slice _ _ _), (1, .slice _ _ _), (2, .int _ _), (3, .int _ _)] ⟨rfl, rfl, rfl, rfl, trivial⟩ fun σ => ?_
  refine gseq fun N2 hN2 => ?_
  refine greg ?_
  refine gop (y_assign (v := .slice _ _ _) rfl) rfl rfl rfl ?_
  refine gops_nil ?_
  refine hN2 _ _ ?_
  refine gfrom [(0, .slice _ _ _), (1, .slice _ _ _), (2, .int _ _), (3, .int _ _), (9, .slice _ _ _)] ⟨rfl, rfl, rfl, rfl, rfl, trivial⟩ fun σ => ?_
  refine gseq fun N3 hN3 => ?_
  refine gseq fun N4 hN4 => ?_
  refine greg ?_
  refine gop (y_move (v := .slice _ _ _) rfl) rfl rfl rfl ?_
  refine gop (y_len Try.underlying23 rfl) rfl rfl rfl ?_
  refine gop (y_move (v := .int _ _) rfl) rfl rfl rfl ?_
  refine gops_nil ?_
  refine hN4 _ _ ?_
  refine gfrom [(1, .slice _ _ _), (2, .int _ _), (3, .int _ _), (9, .slice _ _ _), (12, .slice _ _ _), (13, .int _ _), (14, .int _ _)] ⟨rfl, rfl, rfl, rfl, rfl, rfl, rfl, trivial⟩ fun σ => ?_
  refine gblock ?_
  refine gnilrow strCells 9 1 ?_
  refine gfrom2 [(2, .int _ _), (9, .slice _ _ _), (14, .int _ _)] [(1, .slice _ _ _), (3, .int _ _), (12, .slice _ _ _), (13, .int _ _)] ⟨rfl, rfl, rfl, trivial⟩ ⟨rfl, rfl, rfl, rfl, trivial⟩ fun σ => ?_
  refine gloop2 (G := Nat × Nat × Option Addr × Nat × List ByteArray) (fun (k, low, Av, cv, l) => k ≤ hs.length ∧ (∀ h : k < (pls hs).length, (low : Int) ≤ (pls hs)[k].at_) ∧ low ≤ text.length ∧ l.length ≤ 240 * k ∧ l ++ rawFrom low ((pls hs).drop k) text = rawFrom 0 (pls hs) text) (fun (k, low, Av, cv, l) => hs.length - k) (fun (k, low, Av, cv, l) => [(2, .int .i64 (low : Int)), (9, .slice Av l.length cv), (14, .int .i64 (k : Int))]) (fun (k, low, Av, cv, l) => [(0, rowl strCells w.heap.size 9 1 (.slice Av l.length cv) (l))]) ((0, 0, none, 0, [])) ?h0 ⟨rfl, rfl, rfl, trivial⟩ ⟨rfl, rfl, rfl, rfl, trivial⟩ rfl ?round
  case h0 => exact ⟨Nat.zero_le _, fun h => (v.at_ 0 h).lo, Nat.zero_le _, by simp, by simp⟩
  case round =>
    rintro ⟨k, low, Av, cv, l⟩ hφ σ
    obtain ⟨hk, hlow, hlt, hll, hraw⟩ := hφ
    refine gT [rowl _ _ _ _ _ _] rfl ?_
    refine gseq fun N5 hN5 => ?_
    refine greg ?_
    refine gop (y_lss rfl rfl) rfl rfl rfl ?_
    refine gops_nil ?_
    refine hN5 _ _ ?_
    refine gfrom [(1, .slice _ _ _), (2, .int _ _), (3, .int _ _), (9, .slice Av _ cv), (12, .slice _ _ _), (13, .int _ _), (14, .int _ _), (15, .bool _)] ⟨rfl, rfl, rfl, rfl, rfl, rfl, rfl, rfl, trivial⟩ fun σ => ?_
    refine gseq fun N6 hN6 => ?_
    refine gcond (b := _) rfl (fun hc15 => ?_) (fun hc15 => ?_)
    · -- slot 15 t
      replace hc15 := of_decide_eq_true hc15
      have hk1 : k < hs.length := by omega
      have hk2 : k < (pls hs).length := by simpa using hk1
      obtain ⟨ad, rfl, -, hcv⟩ := hp.rd.at_ hk1
      have hR := hp.each _ (List.getElem_mem hk1)
      have hlo := hlow hk2
      have hen := hends _ (List.getElem_mem hk2)
      have hB := v.hb k hk2
      rw [List.getElem_map] at hlo hen hB
      have hB1 := hB.lo
      have hB2 := hB.hi
      have hB3 := hB.old
      have hB4 := hB.new
      have hee : hs[k].pl.end_ = hs[k].pl.at_ + hs[k].pl.old.length := rfl
      refine gskip ?_
      refine hN6 _ _ ?_
      refine gfrom [(1, .slice _ _ _), (2, .int _ _), (3, .int _ _), (9, .slice Av _ cv), (12, .slice _ _ _), (13, .int _ _), (14, .int _ _)] ⟨rfl, rfl, rfl, rfl, rfl, rfl, rfl, trivial⟩ fun σ => ?_
      refine gseq fun N7 hN7 => ?_
      refine gblock ?_
      refine gseq fun N8 hN8 => ?_
      refine greg ?_
      refine gop (y_indexAddr Try.underlying23 Try.sizeOf43 rfl rfl rfl (by omega) (by omega)) rfl rfl rfl ?_
      refine gop (y_loads (cs := [_, _, _]) Try.isAgg43 Try.sizeOf43 rfl rfl (cells_base hcv)) rfl rfl rfl ?_
      refine gop_alloc (cs := #[.int .i64 0, .slice none 0 0, .slice none 0 0]) Try.zeroValue43 rfl rfl (fun b11 hb11 => ?_)
      refine gop_store 1 (v := .agg #[_, _, _]) (cs' := #[_, _, _]) rfl rfl Try.sizeOf43 rfl rfl rfl rfl (Nat.le_of_ble_eq_true rfl) rfl rfl ?_
      refine gops_nil ?_
      refine hN8 _ _ ?_
      refine gT [rowl _ _ _ _ _ _, box b11 _] rfl ?_
      refine gfrom [(1, .slice _ _ _), (2, .int _ _), (3, .int _ _), (9, .slice Av _ cv), (11, .pointer _), (12, .slice _ _ _), (13, .int _ _), (14, .int _ _)] ⟨rfl, rfl, rfl, rfl, rfl, rfl, rfl, rfl, trivial⟩ fun σ => ?_
      refine gseq fun N9 hN9 => ?_
      refine greg_e1 [] [(0, emp)] (by kernel_rfl) ?_
      refine ge_take 0 (TK := [emp, box b11 _]) rfl (by kernel_rfl) (by kernel_rfl) (by kernel_rfl) #[false, true, true, true, true, true, false, true, true, false, false] (by kernel_rfl) rfl (y_move (v := .slice Av _ cv) rfl) rfl rfl rfl (weak_emp 0 rfl) (listed' := #[true, false, false, false, false, false, false, false, false, false, false]) rfl ?_
      refine ge_take 1 (TK := [emp, box b11 _]) rfl (by kernel_rfl) (by kernel_rfl) (by kernel_rfl) #[true, false, true, true, true, false, false, true, true, false, false] (by kernel_rfl) rfl (y_move (v := .slice _ _ _) rfl) rfl rfl rfl (weak_emp 0 rfl) (listed' := #[true, true, false, false, false, false, false, false, false, false, false]) rfl ?_
      refine ge_take 2 (TK := [emp, box b11 _]) rfl (by kernel_rfl) (by kernel_rfl) (by kernel_rfl) #[true, true, false, true, true, false, false, true, true, false, false] (by kernel_rfl) rfl (y_move (v := .int _ _) rfl) rfl rfl rfl (weak_emp 0 rfl) (listed' := #[true, true, true, false, false, false, false, false, false, false, false]) rfl ?_
      refine ge_take 3 (TK := [emp, box b11 _]) rfl (by kernel_rfl) (by kernel_rfl) (by kernel_rfl) #[true, true, true, false, false, false, false, true, true, false, false] (by kernel_rfl) rfl (y_fieldAddr_box fa43_0 rfl) rfl rfl rfl (weak_emp 0 rfl) (listed' := #[true, true, true, true, false, false, false, false, false, false, false]) rfl ?_
      refine ge_take 4 (TK := [emp, box b11 _]) rfl (by kernel_rfl) (by kernel_rfl) (by kernel_rfl) #[true, true, true, true, false, false, false, true, true, false, false] (by kernel_rfl) rfl (y_load Try.isAgg3 rfl (cell_box 1 rfl rfl)) rfl rfl rfl (weak_emp 0 rfl) (listed' := #[true, true, true, true, true, false, false, false, false, false, false]) rfl ?_
      refine ge_take 5 (TK := [emp, box b11 _]) rfl (by kernel_rfl) (by kernel_rfl) (by kernel_rfl) #[true, true, true, true, true, false, false, true, true, false, false] (by kernel_rfl) rfl (y_slice Try.underlying41 Try.sizeOf9 rfl rfl rfl (by omega) (by omega) (by omega)) rfl rfl rfl (weak_emp 0 rfl) (listed' := #[true, true, true, true, true, true, false, false, false, false, false]) rfl ?_
      refine ge_take 7 (TK := [emp, box b11 _]) rfl (by kernel_rfl) (by kernel_rfl) (by kernel_rfl) #[true, true, true, true, true, true, true, false, false, false, false] (by kernel_rfl) rfl (y_fieldAddr_box fa43_2 rfl) rfl rfl rfl (weak_emp 0 rfl) (listed' := #[true, true, true, true, true, true, false, true, false, false, false]) rfl ?_
      refine ge_take 8 (TK := [emp, box b11 _]) rfl (by kernel_rfl) (by kernel_rfl) (by kernel_rfl) #[true, true, true, true, true, true, true, true, false, false, false] (by kernel_rfl) rfl (y_load Try.isAgg41 rfl (cell_box 1 rfl rfl)) rfl rfl rfl (weak_emp 0 rfl) (listed' := #[true, true, true, true, true, true, false, true, true, false, false]) rfl ?_
      refine ge_one 6 (k' := 0) (listed' := #[true, true, true, true, true, true, true, true, true, false, false]) (by kernel_rfl) rfl rfl rfl ?_
      refine gop_append 0 (f := strCells) (l2 := ((text.drop low).take (hs[k].pl.at_.toNat - low))) Try.underlying41 el9 wide_str (v := .slice Av _ cv) rfl rfl rfl (by simp; omega) (cut_nil htb.nil) (by simp; omega) (by simp; omega) (fun w hM => ((ht.cut (i := low) (j := hs[k].pl.at_.toNat) (cap := d) (by omega) (by omega) htb.len).base hM).src (fun _ => rfl)) rfl (fun v24 => ?_)
      refine gops_nil ?_
      refine ge_fin (TK := [emp, box b11 _]) rfl (weak_emp 0 rfl) ?_
      refine ge_one 9 (k' := 0) (listed' := #[true, true, true, true, true, true, true, true, true, true, false]) (by kernel_rfl) rfl rfl rfl ?_
      refine gop_append 0 (f := strCells) (l2 := hs[k].pl.new) Try.underlying41 el9 wide_str (v := v24) rfl rfl rfl rfl hR.nb.nil (by simp; omega) (by simp; omega) (fun w hM => (hR.new.base hM).src (fun _ => rfl)) rfl (fun v27 => ?_)
      refine gops_fact (fun w hM => own_form (hM.own 0 rfl)) ?_
      rintro ⟨A27, c27, rfl, hc27, hm27⟩
      refine gops_nil ?_
      refine ge_fin (TK := [emp, box b11 _]) rfl (weak_emp 0 rfl) ?_
      refine ge_take 10 (TK := [emp, box b11 _]) rfl (by kernel_rfl) (by kernel_rfl) (by kernel_rfl) #[true, true, true, true, true, true, true, true, true, true, false] (by kernel_rfl) rfl (y_assign (v := .slice A27 _ c27) rfl) rfl rfl rfl (weak_emp 0 rfl) (listed' := #[true, true, true, true, true, true, true, true, true, true, true]) rfl ?_
      refine ge_done (by kernel_rfl) ?_
      refine hN9 _ _ ?_
      refine gT [rowl _ _ _ _ _ _, box b11 _] rfl ?_
      refine gfrom [(1, .slice _ _ _), (3, .int _ _), (9, .slice A27 _ c27), (11, .pointer _), (12, .slice _ _ _), (13, .int _ _), (14, .int _ _)] ⟨rfl, rfl, rfl, rfl, rfl, rfl, rfl, trivial⟩ fun σ => ?_
      refine greg ?_
      refine gop (y_loads (cs := [_, _, _]) Try.isAgg43 Try.sizeOf43 rfl rfl (cells_box 1 rfl)) rfl rfl rfl ?_
      refine gop_pure (e_call (vs := [.agg #[_, _, _]]) Try.func35 rfl (by kernel_rfl) rfl) (fun w hM => end_any w hs[k] (by unfold In64 Hunk.end_; omega)) rfl rfl rfl ?_
      refine gop (y_assign (v := .int _ _) rfl) rfl rfl rfl ?_
      refine gops_nil ?_
      refine hN7 _ _ ?_
      refine gfrom [(1, .slice _ _ _), (2, .int _ _), (3, .int _ _), (9, .slice A27 _ c27), (12, .slice _ _ _), (13, .int _ _), (14, .int _ _)] ⟨rfl, rfl, rfl, rfl, rfl, rfl, rfl, trivial⟩ fun σ => ?_
      refine greg ?_
      refine gop (y_add rfl rfl ⟨by omega, by omega⟩) rfl rfl rfl ?_
      refine gop (y_move (v := .int _ _) rfl) rfl rfl rfl ?_
      refine gops_nil ?_
      refine gnext2 ((k + 1, hs[k].pl.at_.toNat + hs[k].pl.old.length, A27, c27, (l ++ ((text.drop low).take (hs[k].pl.at_.toNat - low))) ++ hs[k].pl.new)) (by show hs.length - (k + 1) < hs.length - k; omega) (⟨by show k + 1 ≤ _; omega, fun h => ?hp, by show hs[k].pl.at_.toNat + _ ≤ _; omega, by simp; omega, by rw [← hraw, rawFrom_drop hk2, List.getElem_map]; simp [List.append_assoc]⟩) ⟨(congrArg (Value.int .i64) (by unfold Hunk.end_; omega)), rfl, rfl, trivial⟩ ⟨rfl, rfl, rfl, rfl, trivial⟩ ⟨_, rfl⟩
      case hp =>
        have h2 := v.before (k + 1) h k hk2 (by omega)
        simp only [List.getElem_map] at h2 ⊢
        have h3 : hs[k].pl.end_ = hs[k].pl.at_ + hs[k].pl.old.length := rfl
        show ((hs[k].pl.at_.toNat + hs[k].pl.old.length : Nat) : Int) ≤ _
        omega
    · -- slot 15 f
      replace hc15 := of_decide_eq_false hc15
      have hfin : l ++ (text.drop low).take (text.length - low) = rawFrom 0 (pls hs) text := by rw [← hraw, show (pls hs).drop k = [] from List.drop_eq_nil_of_le (by simp; omega), rawFrom, List.take_of_length_le (by simp)]
      refine gexit ?_
      refine hN3 _ _ ?_
      refine gfrom [(1, .slice _ _ _), (2, .int _ _), (3, .int _ _), (9, .slice Av _ cv)] ⟨rfl, rfl, rfl, rfl, trivial⟩ fun σ => ?_
      refine gseq fun N10 hN10 => ?_
      refine greg ?_
      refine gop (y_move (v := .slice Av _ cv) rfl) rfl rfl rfl ?_
      refine gop (y_move (v := .slice _ _ _) rfl) rfl rfl rfl ?_
      refine gop (y_move (v := .int _ _) rfl) rfl rfl rfl ?_
      refine gop (y_move (v := .int _ _) rfl) rfl rfl rfl ?_
      refine gop (y_slice Try.underlying41 Try.sizeOf9 rfl rfl rfl (by omega) (by omega) (by omega)) rfl rfl rfl ?_
      refine gop_append 0 (f := strCells) (l2 := ((text.drop low).take (text.length - low))) Try.underlying41 el9 wide_str (v := .slice Av _ cv) rfl rfl rfl (by simp) (cut_nil htb.nil) (by simp; omega) (by simp; omega) (fun w hM => ((ht.cut (i := low) (j := text.length) (cap := d) (by omega) (by omega) htb.len).base hM).src (fun _ => rfl)) rfl (fun v36 => ?_)
      refine gop (y_assign (v := v36) rfl) rfl rfl rfl ?_
      refine gops_nil ?_
      refine hN10 _ _ ?_
      refine gT [rowl _ _ _ _ _ _] rfl ?_
      refine gfrom [(8, v36)] ⟨rfl, trivial⟩ fun σ => ?_
      refine gret fun w1 hM => ?_
      refine ⟨_, res1 rfl (rt (v := v36) rfl), ?_⟩
      rw [hfin] at hM
      exact ⟨_, _, rfl, rfl, hM⟩

set_option maxHeartbeats 2000000 in
theorem apply_any (w : World) (A : Option Addr) (c : Nat) (hs : List HunkC) (hp : PatR w 0 A c hs) (B : Option Addr) (d : Nat) (text : List ByteArray) (ht : Rdl w 0 1 strCells B text) (htb : SB B text.length d 16) :
    Calls Try.prog 23 #[.agg #[.slice A hs.length c], .slice B text.length d] w fun e w' => ∃ v' T', e = .returned (.tuple #[v', fv (applyF (pls hs) text)]) ∧ T' = [rowl strCells w.heap.size 9 1 v' (applyR (pls hs) text)] ∧ Mem w T' w' := by
  have htc := htb.len
  have htm := htb.max
  have hmx : maxLen = 9223372036854775807 := rfl
  refine gcalls Try.func23 rfl Try.ntmps23 (Nat.le_of_ble_eq_true rfl) ?_
  refine gfrom [(0, .agg #[_]), (1, .slice _ _ _)] ⟨rfl, rfl, trivial⟩ fun σ => ?_
  refine gseq fun N1 hN1 => ?_
  refine greg ?_
  refine gop_box (v := .agg #[_]) (cs := #[_]) rfl rfl rfl (fun b2 hb2 => ?_)
  refine gop (y_assign (v := .slice _ _ _) rfl) rfl rfl rfl ?_
  refine gop_alloc (cs := #[.int .i64 0, .int .i64 0]) Try.zeroValue27 rfl rfl (fun b5 hb5 => ?_)
  refine gops_nil ?_
  refine hN1 _ _ ?_
  refine gT [box b2 _, box b5 _] rfl ?_
  refine gfrom [(1, .slice _ _ _), (2, .pointer _), (5, .pointer _)] ⟨rfl, rfl, rfl, trivial⟩ fun σ => ?_
  refine gseq fun N2 hN2 => ?_
  refine gseq fun N3 hN3 => ?_
  refine greg ?_
  refine gop (y_loads (cs := [_]) Try.isAgg25 Try.sizeOf25 rfl rfl (cells_box 0 rfl)) rfl rfl rfl ?_
  refine gop_pure (e_call (vs := [.agg #[_]]) Try.func18 rfl (by kernel_rfl) rfl) (fun w hM => patchValidate_any w _ _ _ (PatR.lasts.base hp hM)) rfl rfl rfl ?_
  refine gop_alloc (cs := #[.int .i64 0, .int .i64 0]) Try.zeroValue27 rfl rfl (fun b6 hb6 => ?_)
  refine gop_store 2 (v := .agg #[_, _]) (cs' := #[_, _]) rfl rfl Try.sizeOf27 rfl rfl rfl rfl (Nat.le_of_ble_eq_true rfl) rfl rfl ?_
  refine gops_nil ?_
  refine hN3 _ _ ?_
  refine gT [box b2 _, box b5 _, box b6 _] rfl ?_
  refine gfrom [(1, .slice _ _ _), (2, .pointer _), (5, .pointer _), (6, .pointer _)] ⟨rfl, rfl, rfl, rfl, trivial⟩ fun σ => ?_
  refine gseq fun N4 hN4 => ?_
  refine greg ?_
  refine gop (y_loads (cs := [_, _]) Try.isAgg27 Try.sizeOf27 rfl rfl (cells_box 2 rfl)) rfl rfl rfl ?_
  refine gop (y_build (vs := []) (cells := #[.int .i64 0, .int .i64 0]) rfl bd27_) rfl rfl rfl ?_
  refine gop (y_bin (vx := .agg #[_, _]) (vy := .agg #[_, _]) rfl rfl (fun w => eg27 _ _ _ _ _ w) (fun w => ne27 _ _ _ _ w)) rfl rfl rfl ?_
  refine gops_nil ?_
  refine hN4 _ _ ?_
  refine gfrom [(1, .slice _ _ _), (2, .pointer _), (5, .pointer _), (6, .pointer _), (15, .bool _)] ⟨rfl, rfl, rfl, rfl, rfl, trivial⟩ fun σ => ?_
  refine gcond (b := _) rfl (fun hc15 => ?_) (fun hc15 => ?_)
  · -- slot 15 t
    replace hc15 := fault_ne.1 hc15
    have hF : applyF (pls hs) text = patchF (pls hs) := by rw [applyF, if_pos hc15]
    refine gseq fun N5 hN5 => ?_
    refine greg_e1 [] [(1, room b5 27 2)] (by kernel_rfl) ?_
    refine ge_take 0 (TK := [box b2 _, room b5 27 2, box b6 _]) rfl (by kernel_rfl) (by kernel_rfl) (by kernel_rfl) #[false, true, false] (by kernel_rfl) rfl (y_loads (cs := [_, _]) Try.isAgg27 Try.sizeOf27 rfl rfl (cells_box 2 rfl)) rfl rfl rfl (weak_room 1 rfl rfl) (listed' := #[true, false, false]) rfl ?_
    refine ge_take 1 (TK := [box b2 _, room b5 27 2, box b6 _]) rfl (by kernel_rfl) (by kernel_rfl) (by kernel_rfl) #[true, false, false] (by kernel_rfl) rfl (y_assign (v := .slice _ _ _) rfl) rfl rfl rfl (weak_room 1 rfl rfl) (listed' := #[true, true, false]) rfl ?_
    refine ge_one 2 (k' := 0) (listed' := #[true, true, true]) (by kernel_rfl) rfl rfl rfl ?_
    refine gop_store 1 (v := .agg #[_, _]) (cs' := #[_, _]) rfl rfl Try.sizeOf27 rfl rfl rfl rfl (Nat.le_of_ble_eq_true rfl) rfl rfl ?_
    refine gops_nil ?_
    refine ge_fin (TK := [box b2 _, room b5 27 2, box b6 _]) rfl (weak_room 1 rfl rfl) ?_
    refine ge_done (by kernel_rfl) ?_
    refine hN5 _ _ ?_
    refine gT [box b2 _, box b5 _, box b6 _] rfl ?_
    refine gfrom [(4, .slice _ _ _), (5, .pointer _)] ⟨rfl, rfl, trivial⟩ fun σ => ?_
    refine gret fun w1 hM => ?_
    refine ⟨_, res2 rfl (rt (v := .slice _ _ _) rfl) (rc 1 (cs := [_, _]) hM rfl rfl Try.isAgg27 Try.sizeOf27 rfl), ?_⟩
    exact ⟨.slice none 0 0, [rowl strCells w.heap.size 9 1 (.slice none 0 0) []], by rw [hF], by rw [applyR, hF, if_neg (by first | assumption | simp)], (mem_nilrow strCells _ 1 hM).dropTo 3 rfl⟩
  · -- slot 15 f
    replace hc15 := fault_eq.1 hc15
    have hv := patchF_ok.1 hc15
    have hvl : hs.length ≤ 130 := by simpa using hv.len
    refine gskip ?_
    refine hN2 _ _ ?_
    refine gfrom [(1, .slice _ _ _), (2, .pointer _), (5, .pointer _)] ⟨rfl, rfl, rfl, trivial⟩ fun σ => ?_
    refine gseq fun N6 hN6 => ?_
    refine gseq fun N7 hN7 => ?_
    refine greg ?_
    refine gop (y_move (v := .slice _ _ _) rfl) rfl rfl rfl ?_
    refine gop_pure (e_call (vs := [.slice _ _ _, _]) Try.func38 rfl (by kernel_rfl) rfl) (fun w hM => linesSecond_any w _ _ _ (ht.base hM) (by omega) (-2)) rfl rfl rfl ?_
    refine gop_alloc (cs := #[.int .i64 0, .int .i64 0]) Try.zeroValue27 rfl rfl (fun b7 hb7 => ?_)
    refine gop_store 3 (v := .agg #[_, _]) (cs' := #[_, _]) rfl rfl Try.sizeOf27 rfl rfl rfl rfl (Nat.le_of_ble_eq_true rfl) rfl rfl ?_
    refine gops_nil ?_
    refine hN7 _ _ ?_
    refine gT [box b2 _, box b5 _, box b6 _, box b7 _] rfl ?_
    refine gfrom [(1, .slice _ _ _), (2, .pointer _), (5, .pointer _), (7, .pointer _)] ⟨rfl, rfl, rfl, rfl, trivial⟩ fun σ => ?_
    refine gseq fun N8 hN8 => ?_
    refine greg ?_
    refine gop (y_loads (cs := [_, _]) Try.isAgg27 Try.sizeOf27 rfl rfl (cells_box 3 rfl)) rfl rfl rfl ?_
    refine gop (y_build (vs := []) (cells := #[.int .i64 0, .int .i64 0]) rfl bd27_) rfl rfl rfl ?_
    refine gop (y_bin (vx := .agg #[_, _]) (vy := .agg #[_, _]) rfl rfl (fun w => eg27 _ _ _ _ _ w) (fun w => ne27 _ _ _ _ w)) rfl rfl rfl ?_
    refine gops_nil ?_
    refine hN8 _ _ ?_
    refine gfrom [(1, .slice _ _ _), (2, .pointer _), (5, .pointer _), (7, .pointer _), (21, .bool _)] ⟨rfl, rfl, rfl, rfl, rfl, trivial⟩ fun σ => ?_
    refine gcond (b := _) rfl (fun hc21 => ?_) (fun hc21 => ?_)
    · -- slot 21 t
      replace hc21 := fault_ne.1 hc21
      have hF : applyF (pls hs) text = secondF (linesF text) (-2) := by rw [applyF, if_neg (by simp [hc15]), if_pos hc21]
      refine gseq fun N9 hN9 => ?_
      refine greg_e1 [] [(1, room b5 27 2)] (by kernel_rfl) ?_
      refine ge_take 0 (TK := [box b2 _, room b5 27 2, box b6 _, box b7 _]) rfl (by kernel_rfl) (by kernel_rfl) (by kernel_rfl) #[false, true, false] (by kernel_rfl) rfl (y_loads (cs := [_, _]) Try.isAgg27 Try.sizeOf27 rfl rfl (cells_box 3 rfl)) rfl rfl rfl (weak_room 1 rfl rfl) (listed' := #[true, false, false]) rfl ?_
      refine ge_take 1 (TK := [box b2 _, room b5 27 2, box b6 _, box b7 _]) rfl (by kernel_rfl) (by kernel_rfl) (by kernel_rfl) #[true, false, false] (by kernel_rfl) rfl (y_assign (v := .slice _ _ _) rfl) rfl rfl rfl (weak_room 1 rfl rfl) (listed' := #[true, true, false]) rfl ?_
      refine ge_one 2 (k' := 0) (listed' := #[true, true, true]) (by kernel_rfl) rfl rfl rfl ?_
      refine gop_store 1 (v := .agg #[_, _]) (cs' := #[_, _]) rfl rfl Try.sizeOf27 rfl rfl rfl rfl (Nat.le_of_ble_eq_true rfl) rfl rfl ?_
      refine gops_nil ?_
      refine ge_fin (TK := [box b2 _, room b5 27 2, box b6 _, box b7 _]) rfl (weak_room 1 rfl rfl) ?_
      refine ge_done (by kernel_rfl) ?_
      refine hN9 _ _ ?_
      refine gT [box b2 _, box b5 _, box b6 _, box b7 _] rfl ?_
      refine gfrom [(4, .slice _ _ _), (5, .pointer _)] ⟨rfl, rfl, trivial⟩ fun σ => ?_
      refine gret fun w1 hM => ?_
      refine ⟨_, res2 rfl (rt (v := .slice _ _ _) rfl) (rc 1 (cs := [_, _]) hM rfl rfl Try.isAgg27 Try.sizeOf27 rfl), ?_⟩
      exact ⟨.slice none 0 0, [rowl strCells w.heap.size 9 1 (.slice none 0 0) []], by rw [hF], by rw [applyR, hF, if_neg (by first | assumption | simp)], (mem_nilrow strCells _ 1 hM).dropTo 4 rfl⟩
    · -- slot 21 f
      replace hc21 := fault_eq.1 hc21
      have htl := linesF_len (second_lines hc21)
      refine gskip ?_
      refine hN6 _ _ ?_
      refine gfrom [(1, .slice _ _ _), (2, .pointer _), (5, .pointer _)] ⟨rfl, rfl, rfl, trivial⟩ fun σ => ?_
      refine gseq fun N10 hN10 => ?_
      refine gseq fun N11 hN11 => ?_
      refine greg ?_
      refine gop (y_fieldAddr_box fa25_0 rfl) rfl rfl rfl ?_
      refine gop (y_load Try.isAgg23 rfl (cell_box 0 rfl rfl)) rfl rfl rfl ?_
      refine gop (y_len Try.underlying23 rfl) rfl rfl rfl ?_
      refine gop (y_move (v := .int _ _) rfl) rfl rfl rfl ?_
      refine gops_nil ?_
      refine hN11 _ _ ?_
      refine gfrom [(1, .slice _ _ _), (2, .pointer _), (5, .pointer _), (24, .slice _ _ _), (25, .int _ _), (26, .int _ _)] ⟨rfl, rfl, rfl, rfl, rfl, rfl, trivial⟩ fun σ => ?_
      refine gblock ?_
      refine gfrom2 [(26, .int _ _)] [(1, .slice _ _ _), (2, .pointer _), (5, .pointer _), (24, .slice _ _ _), (25, .int _ _)] ⟨rfl, trivial⟩ ⟨rfl, rfl, rfl, rfl, rfl, trivial⟩ fun σ => ?_
      refine gloop2 (G := Nat) (fun k => k ≤ hs.length ∧ ∀ j (h : j < (pls hs).length), j < k → (if occ text (pls hs)[j].old (pls hs)[j].at_ = true then (0 : Int) else 19) = 0) (fun k => hs.length - k) (fun k => [(26, .int .i64 (k : Int))]) (fun k => []) (0) ?h0 ⟨rfl, trivial⟩ ⟨rfl, rfl, rfl, rfl, rfl, trivial⟩ rfl ?round
      case h0 => exact ⟨Nat.zero_le _, fun _ _ h => absurd h (by omega)⟩
      case round =>
        intro k hφ σ
        obtain ⟨hk, hz⟩ := hφ
        refine gseq fun N12 hN12 => ?_
        refine greg ?_
        refine gop (y_lss rfl rfl) rfl rfl rfl ?_
        refine gops_nil ?_
        refine hN12 _ _ ?_
        refine gfrom [(1, .slice _ _ _), (2, .pointer _), (5, .pointer _), (24, .slice _ _ _), (25, .int _ _), (26, .int _ _), (27, .bool _)] ⟨rfl, rfl, rfl, rfl, rfl, rfl, rfl, trivial⟩ fun σ => ?_
        refine gseq fun N13 hN13 => ?_
        refine gcond (b := _) rfl (fun hc27 => ?_) (fun hc27 => ?_)
        · -- slot 27 t
          replace hc27 := of_decide_eq_true hc27
          have hk1 : k < hs.length := by omega
          have hk2 : k < (pls hs).length := by simpa using hk1
          obtain ⟨ad, rfl, -, hcv⟩ := hp.rd.at_ hk1
          have hR := hp.each _ (List.getElem_mem hk1)
          refine gskip ?_
          refine hN13 _ _ ?_
          refine gfrom [(1, .slice _ _ _), (2, .pointer _), (5, .pointer _), (24, .slice _ _ _), (25, .int _ _), (26, .int _ _)] ⟨rfl, rfl, rfl, rfl, rfl, rfl, trivial⟩ fun σ => ?_
          refine gseq fun N14 hN14 => ?_
          refine gblock ?_
          refine gseq fun N15 hN15 => ?_
          refine greg ?_
          refine gop (y_move (v := .int _ _) rfl) rfl rfl rfl ?_
          refine gop (y_indexAddr Try.underlying23 Try.sizeOf43 rfl rfl rfl (by omega) (by omega)) rfl rfl rfl ?_
          refine gop (y_loads (cs := [_, _, _]) Try.isAgg43 Try.sizeOf43 rfl rfl (cells_base hcv)) rfl rfl rfl ?_
          refine gop_alloc (cs := #[.int .i64 0, .slice none 0 0, .slice none 0 0]) Try.zeroValue43 rfl rfl (fun b9 hb9 => ?_)
          refine gop (y_assign (v := .int _ _) rfl) rfl rfl rfl ?_
          refine gop_store 4 (v := .agg #[_, _, _]) (cs' := #[_, _, _]) rfl rfl Try.sizeOf43 rfl rfl rfl rfl (Nat.le_of_ble_eq_true rfl) rfl rfl ?_
          refine gops_nil ?_
          refine hN15 _ _ ?_
          refine gT [box b2 _, box b5 _, box b6 _, box b7 _, box b9 _] rfl ?_
          refine gfrom [(1, .slice _ _ _), (2, .pointer _), (5, .pointer _), (8, .int _ _), (9, .pointer _), (24, .slice _ _ _), (25, .int _ _), (26, .int _ _)] ⟨rfl, rfl, rfl, rfl, rfl, rfl, rfl, rfl, trivial⟩ fun σ => ?_
          refine gseq fun N16 hN16 => ?_
          refine greg ?_
          refine gop (y_move (v := .slice _ _ _) rfl) rfl rfl rfl ?_
          refine gop (y_fieldAddr_box fa43_1 rfl) rfl rfl rfl ?_
          refine gop (y_load Try.isAgg41 rfl (cell_box 4 rfl rfl)) rfl rfl rfl ?_
          refine gop (y_fieldAddr_box fa43_0 rfl) rfl rfl rfl ?_
          refine gop (y_load Try.isAgg3 rfl (cell_box 4 rfl rfl)) rfl rfl rfl ?_
          refine gop_pure (e_call (vs := [.slice _ _ _, .slice _ _ _, .int _ _]) Try.func39 rfl (by kernel_rfl) rfl) (fun w hM => occurs_any w _ _ text (ht.base hM) htb.len htb.max _ _ _ (hR.old.base hM) (Nat.le_trans hR.ob.len hR.ob.max) _) rfl rfl rfl ?_
          refine gop (y_not rfl) rfl rfl rfl ?_
          refine gops_nil ?_
          refine hN16 _ _ ?_
          refine gfrom [(1, .slice _ _ _), (2, .pointer _), (5, .pointer _), (8, .int _ _), (24, .slice _ _ _), (25, .int _ _), (26, .int _ _), (37, .bool _)] ⟨rfl, rfl, rfl, rfl, rfl, rfl, rfl, rfl, trivial⟩ fun σ => ?_
          refine gcond (b := _) rfl (fun hc37 => ?_) (fun hc37 => ?_)
          · -- slot 37 t
            replace hc37 := not_t hc37
            have hS : scan (fun _ h => if occ text h.old h.at_ = true then 0 else 19) (pls hs) = ⟨19, k⟩ := by rw [scan_at hk2 hz (by rw [List.getElem_map, if_neg (by simp [hc37])]; decide), List.getElem_map, if_neg (by simp [hc37])]
            have hF : applyF (pls hs) text = ⟨19, k⟩ := by rw [applyF, if_neg (by simp [hc15]), if_neg (by simp [hc21]), if_pos (by rw [hS]; simp), hS]
            refine gseq fun N17 hN17 => ?_
            refine greg ?_
            refine gop (y_move (v := .int _ _) rfl) rfl rfl rfl ?_
            refine gop (y_build (vs := [(0, _), (1, .int _ _)]) (cells := #[_, _]) rfl (bd27_0_1 _ _)) rfl rfl rfl ?_
            refine gop (y_assign (v := .slice _ _ _) rfl) rfl rfl rfl ?_
            refine gop_store 1 (v := .agg #[_, _]) (cs' := #[_, _]) rfl rfl Try.sizeOf27 rfl rfl rfl rfl (Nat.le_of_ble_eq_true rfl) rfl rfl ?_
            refine gops_nil ?_
            refine hN17 _ _ ?_
            refine gT [box b2 _, box b5 _, box b6 _, box b7 _, box b9 _] rfl ?_
            refine gfrom [(4, .slice _ _ _), (5, .pointer _)] ⟨rfl, rfl, trivial⟩ fun σ => ?_
            refine gret fun w1 hM => ?_
            refine ⟨_, res2 rfl (rt (v := .slice _ _ _) rfl) (rc 1 (cs := [_, _]) hM rfl rfl Try.isAgg27 Try.sizeOf27 rfl), ?_⟩
            exact ⟨.slice none 0 0, [rowl strCells w.heap.size 9 1 (.slice none 0 0) []], by rw [hF], by rw [applyR, hF, if_neg (by first | assumption | simp)], (mem_nilrow strCells _ 1 hM).dropTo 5 rfl⟩
          · -- slot 37 f
            replace hc37 := not_f hc37
            refine gskip ?_
            refine hN14 _ _ ?_
            refine gfrom [(1, .slice _ _ _), (2, .pointer _), (5, .pointer _), (24, .slice _ _ _), (25, .int _ _), (26, .int _ _)] ⟨rfl, rfl, rfl, rfl, rfl, rfl, trivial⟩ fun σ => ?_
            refine greg ?_
            refine gop (y_add rfl rfl ⟨by omega, by omega⟩) rfl rfl rfl ?_
            refine gop (y_move (v := .int _ _) rfl) rfl rfl rfl ?_
            refine gops_nil ?_
            refine gnext2 (k + 1) (by omega) (⟨by omega, fun j h hj => by rcases Nat.lt_succ_iff_lt_or_eq.1 hj with h1 | rfl; exact hz j h h1; rw [List.getElem_map, if_pos hc37]⟩) ⟨rfl, trivial⟩ ⟨rfl, rfl, rfl, rfl, rfl, trivial⟩ ⟨_, rfl⟩
        · -- slot 27 f
          replace hc27 := of_decide_eq_false hc27
          have hS : scan (fun _ h => if occ text h.old h.at_ = true then 0 else 19) (pls hs) = ⟨0, 0⟩ := scan_ok fun j hj => hz j hj (by simp at hj; omega)
          have hends : ∀ h ∈ pls hs, h.end_ ≤ text.length := fun h hh => by
            obtain ⟨j, hj, rfl⟩ := List.getElem_of_mem hh
            have h1 := hz j hj (by simp at hj; omega)
            by_cases h2 : occ text (pls hs)[j].old (pls hs)[j].at_ = true
            · exact (occ_end h2).2
            · rw [if_neg h2] at h1; cases h1
          have hF0 : applyF (pls hs) text = if 120 < (rawFrom 0 (pls hs) text).length then ⟨10, -1⟩ else ⟨0, 0⟩ := by rw [applyF, if_neg (by simp [hc15]), if_neg (by simp [hc21]), if_neg (by rw [hS]; simp)]
          refine gexit ?_
          refine hN10 _ _ ?_
          refine gfrom [(1, .slice _ _ _), (2, .pointer _), (5, .pointer _)] ⟨rfl, rfl, rfl, trivial⟩ fun σ => ?_
          refine gseq fun N18 hN18 => ?_
          refine greg ?_
          refine gop (y_fieldAddr_box fa25_0 rfl) rfl rfl rfl ?_
          refine gop (y_load Try.isAgg23 rfl (cell_box 0 rfl rfl)) rfl rfl rfl ?_
          refine gop (y_move (v := .slice _ _ _) rfl) rfl rfl rfl ?_
          refine gop (y_move (v := .slice _ _ _) rfl) rfl rfl rfl ?_
          refine gop (y_len Try.underlying41 rfl) rfl rfl rfl ?_
          refine gop_got (fun v T' => ∃ lo, w.heap.size ≤ lo ∧ T' = [rowl strCells lo 9 1 v (rawFrom 0 (pls hs) text)]) (e_call (vs := [.slice _ _ _, .slice _ _ _, _, .int _ _]) Try.func40 rfl (by kernel_rfl) rfl) (fun w hM => (raw_any w _ _ hs (PatR.lasts.base hp hM) _ _ text (ht.base hM) htb hv htl hends).mono fun _ _ ⟨v, T1, h1, h2, h3⟩ => ⟨v, T1, h1, ⟨_, hM.low.size, h2⟩, h3⟩) rfl rfl rfl ?_
          rintro v46 _ ⟨lo46, hlo46, rfl⟩
          refine gops_fact (fun w hM => row_form (hM.ok _ (List.mem_of_getElem? (i := 4) rfl))) ?_
          rintro ⟨A46, c46, rfl, hc46, hm46, hn46⟩
          refine gop (y_assign (v := .slice A46 _ c46) rfl) rfl rfl rfl ?_
          refine gops_nil ?_
          refine hN18 _ _ ?_
          refine gT [box b2 _, box b5 _, box b6 _, box b7 _, rowl _ _ _ _ _ _] rfl ?_
          refine gfrom [(5, .pointer _), (10, .slice A46 _ c46)] ⟨rfl, rfl, trivial⟩ fun σ => ?_
          refine gseq fun N19 hN19 => ?_
          refine gseq fun N20 hN20 => ?_
          refine greg ?_
          refine gop (y_move (v := .slice A46 _ c46) rfl) rfl rfl rfl ?_
          refine gop (y_len Try.underlying41 rfl) rfl rfl rfl ?_
          refine gop (y_gtr rfl rfl) rfl rfl rfl ?_
          refine gops_nil ?_
          refine hN20 _ _ ?_
          refine gfrom [(5, .pointer _), (10, .slice A46 _ c46), (49, .bool _)] ⟨rfl, rfl, rfl, trivial⟩ fun σ => ?_
          refine gcond (b := _) rfl (fun hc49 => ?_) (fun hc49 => ?_)
          · -- slot 49 t
            replace hc49 := of_decide_eq_true hc49
            have hF : applyF (pls hs) text = ⟨10, -1⟩ := by rw [hF0, if_pos (by omega)]
            refine gseq fun N21 hN21 => ?_
            refine greg ?_
            refine gop (y_build (vs := [(0, _), (1, _)]) (cells := #[_, _]) rfl (bd27_0_1 _ _)) rfl rfl rfl ?_
            refine gop (y_assign (v := .slice _ _ _) rfl) rfl rfl rfl ?_
            refine gop_store 1 (v := .agg #[_, _]) (cs' := #[_, _]) rfl rfl Try.sizeOf27 rfl rfl rfl rfl (Nat.le_of_ble_eq_true rfl) rfl rfl ?_
            refine gops_nil ?_
            refine hN21 _ _ ?_
            refine gT [box b2 _, box b5 _, box b6 _, box b7 _, rowl _ _ _ _ _ _] rfl ?_
            refine gfrom [(4, .slice _ _ _), (5, .pointer _)] ⟨rfl, rfl, trivial⟩ fun σ => ?_
            refine gret fun w1 hM => ?_
            refine ⟨_, res2 rfl (rt (v := .slice _ _ _) rfl) (rc 1 (cs := [_, _]) hM rfl rfl Try.isAgg27 Try.sizeOf27 rfl), ?_⟩
            exact ⟨.slice none 0 0, [rowl strCells w.heap.size 9 1 (.slice none 0 0) []], by rw [hF], by rw [applyR, hF, if_neg (by first | assumption | simp)], (mem_nilrow strCells _ 1 hM).dropTo 5 rfl⟩
          · -- slot 49 f
            replace hc49 := of_decide_eq_false hc49
            have hF : applyF (pls hs) text = ⟨0, 0⟩ := by rw [hF0, if_neg (by omega)]
            refine gskip ?_
            refine hN19 _ _ ?_
            refine gfrom [(5, .pointer _), (10, .slice A46 _ c46)] ⟨rfl, rfl, trivial⟩ fun σ => ?_
            refine gseq fun N22 hN22 => ?_
            refine greg ?_
            refine gop (y_move (v := .slice A46 _ c46) rfl) rfl rfl rfl ?_
            refine gop (y_build (vs := []) (cells := #[.int .i64 0, .int .i64 0]) rfl bd27_) rfl rfl rfl ?_
            refine gop (y_assign (v := .slice A46 _ c46) rfl) rfl rfl rfl ?_
            refine gop_store 1 (v := .agg #[_, _]) (cs' := #[_, _]) rfl rfl Try.sizeOf27 rfl rfl rfl rfl (Nat.le_of_ble_eq_true rfl) rfl rfl ?_
            refine gops_nil ?_
            refine hN22 _ _ ?_
            refine gT [box b2 _, box b5 _, box b6 _, box b7 _, rowl _ _ _ _ _ _] rfl ?_
            refine gfrom [(4, .slice A46 _ c46), (5, .pointer _)] ⟨rfl, rfl, trivial⟩ fun σ => ?_
            refine gret fun w1 hM => ?_
            refine ⟨_, res2 rfl (rt (v := .slice A46 _ c46) rfl) (rc 1 (cs := [_, _]) hM rfl rfl Try.isAgg27 Try.sizeOf27 rfl), ?_⟩
            exact ⟨_, [rowl strCells w.heap.size 9 1 _ (rawFrom 0 (pls hs) text)], by rw [hF], by rw [applyR, if_pos hF], (weak_lower 4 rfl hlo46 _ hM).dropTo 4 rfl⟩
end Go.Proofs.Ytbaojdiccikbiaa
