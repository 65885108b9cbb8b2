/- walks, printed by program -/
import Derived.Test.YtbaojdiccikbiaaThlA
namespace Go.Proofs.Ytbaojdiccikbiaa
open Go.RowKit Go.Cf
set_option maxRecDepth 10000

theorem el66 : Elem Try.prog 66 6 72 := elem_of (z := .agg #[.int .i64 0, .int .i64 0, .int .i64 0, .int .i64 0, .string .empty, .slice none 0 0]) (by kernel_rfl) rfl (by decide)
theorem bd66_0_1_2_4 (x1 : Int) (x2 : Int) (x3 : Int) (x4 : ByteArray) : Try.prog.built 66 [(0, .int .i64 x1), (1, .int .i64 x2), (2, .int .i64 x3), (4, .string x4)] = some #[.int .i64 x1, .int .i64 x2, .int .i64 x3, .int .i64 0, .string x4, .slice none 0 0] := by kernel_rfl

attribute [local irreducible] runV pendR loadR
set_option maxHeartbeats 4000000 in
theorem law14_any (w : World) (B : Option Addr) (d : Nat) (text : List ByteArray) (ht : Rdl w 0 1 strCells B text) (htb : SB B text.length d 16) (E : Option Addr) (ec : Nat) (es : List EvC) (he : EvsR w 0 E es) (hem : es.length ≤ maxLen) (hec : es.length ≤ ec) (hE : E = none → ec = 0) (hel : es.length ≤ 1048576) (user th : Int) :
    Calls Try.prog 10 #[.slice B text.length d, .slice E es.length ec, .int .i64 user, .int .i64 th] w fun e w' => e = .returned (.bool true) ∧ Below w.heap.size w w' := by
  have hmx : maxLen = 9223372036854775807 := rfl
  have htc := htb.len
  have htm := htb.max
  refine gcalls Try.func10 rfl Try.ntmps10 (Nat.le_of_ble_eq_true rfl) ?_
  refine gfrom [(0, .slice _ _ _), (1, .slice _ _ _), (2, .int _ _), (3, .int _ _)] ⟨rfl, rfl, rfl, rfl, trivial⟩ fun σ => ?_
  refine gseq fun N1 hN1 => ?_
  refine greg ?_
  refine gop (y_assign (v := .bool _) rfl) rfl rfl rfl ?_
  refine gops_nil ?_
  refine hN1 _ _ ?_
  refine gfrom [(0, .slice _ _ _), (1, .slice _ _ _), (2, .int _ _), (3, .int _ _)] ⟨rfl, rfl, rfl, rfl, trivial⟩ fun σ => ?_
  refine gseq fun N2 hN2 => ?_
  refine greg ?_
  refine gop (y_move (v := .slice _ _ _) rfl) rfl rfl rfl ?_
  refine gop (y_move (v := .slice _ _ _) rfl) rfl rfl rfl ?_
  refine gop_new (fun lo ws v => ∃ v1 v2, v = .tuple #[v1, v2, fv (runV text (evs es)).1] ∧ NewL 5 thrCells (runV text (evs es)).2.1 lo ws v1 ∧ NewL 1 strCells (runV text (evs es)).2.2 lo ws v2) (e_call (vs := [.slice _ _ _, .slice _ _ _]) Try.func24 rfl (by kernel_rfl) rfl) (fun w hM => by have hc := run_any w B d text (ht.base hM) htb E ec es (EvsR.lasts.base he hM) hem; exact hc.mono fun _ _ ⟨v1, v2, h1, h2, h3, h4⟩ => ⟨_, h1, h2, v1, v2, rfl, h3, h4⟩) rfl rfl rfl ?_
  rintro _ lo23 ws23 hlo23 ⟨_, _, rfl, ⟨A23, c23, rfl, hcc23, hcm23, hr23⟩, ⟨B23, d23, rfl, hdc23, hdm23, hq23⟩⟩
  refine gop (y_move (v := .tuple #[.slice _ _ _, .slice _ _ _, .agg #[_, _]]) rfl) rfl rfl rfl ?_
  refine gop (y_extract (v := .slice _ _ _) rfl rfl) rfl rfl rfl ?_
  refine gop (y_extract (v := .slice _ _ _) rfl rfl) rfl rfl rfl ?_
  refine gop (y_extract (v := .agg #[_, _]) rfl rfl) rfl rfl rfl ?_
  refine gop_alloc (cs := #[.int .i64 0, .int .i64 0]) Try.zeroValue27 rfl rfl (fun b11 hb11 => ?_)
  refine gop (y_assign (v := .slice _ _ _) rfl) rfl rfl rfl ?_
  refine gop (y_assign (v := .slice _ _ _) rfl) rfl rfl rfl ?_
  refine gop_store 1 (v := .agg #[_, _]) (cs' := #[_, _]) rfl rfl Try.sizeOf27 rfl rfl rfl rfl (Nat.le_of_ble_eq_true rfl) rfl rfl ?_
  refine gops_nil ?_
  refine hN2 _ _ ?_
  refine gT [seal_ _ _, box b11 _] rfl ?_
  refine gfrom [(0, .slice _ _ _), (1, .slice _ _ _), (2, .int _ _), (3, .int _ _), (9, .slice _ _ _), (11, .pointer _)] ⟨rfl, rfl, rfl, rfl, rfl, rfl, trivial⟩ fun σ => ?_
  refine gseq fun N3 hN3 => ?_
  refine greg ?_
  refine gop (y_move (v := .slice _ _ _) rfl) rfl rfl rfl ?_
  refine gops_nilrow evCells 66 6 ?_
  refine gop_append 2 (f := evCells) (l2 := es) Try.underlying54 el66 wide_ev (v := .slice none 0 0) rfl rfl rfl rfl hE (by simp [maxLen]; omega) (by simp; omega) (fun w hM => (he.rd.base hM).src (fun _ => rfl)) rfl (fun v28 => ?_)
  refine gop (y_move (v := .int _ _) rfl) rfl rfl rfl ?_
  refine gop (y_move (v := .int _ _) rfl) rfl rfl rfl ?_
  refine gop (y_build (vs := [(0, _), (1, .int _ _), (2, .int _ _), (4, _)]) (cells := #[_, _, _, .int .i64 0, _, .slice none 0 0]) rfl (bd66_0_1_2_4 _ _ _ _)) rfl rfl rfl ?_
  refine gop_lit (vs := [.agg #[_, _, _, _, _, _]]) (cells := #[_, _, _, _, _, _]) Try.underlying54 Try.sizeOf66 Try.zeroValue66 rfl (by decide) (by decide) rfl rfl rfl rfl (fun b32 hb32 => ?_)
  refine gop_append 2 (f := evCells) (l2 := [⟨2, user, th, 0, ⟨#[119, 101, 108, 108]⟩, none, 0, []⟩]) Try.underlying54 el66 wide_ev (v := v28) rfl rfl rfl rfl (fun h => by cases h) (by simp [maxLen]; omega) (by simp; omega) (src_box 3 rfl rfl) rfl (fun v33 => ?_)
  refine gops_fact (fun w hM => own_form (hM.own 2 rfl)) ?_
  rintro ⟨A33, c33, rfl, hc33, hm33⟩
  refine gop (y_assign (v := .slice A33 _ c33) rfl) rfl rfl rfl ?_
  refine gops_nil ?_
  refine hN3 _ _ ?_
  refine gT [seal_ _ _, box b11 _, rowl _ _ _ _ _ _, box b32 _] rfl ?_
  refine gfrom [(0, .slice _ _ _), (1, .slice _ _ _), (3, .int _ _), (9, .slice _ _ _), (11, .pointer _), (12, .slice A33 _ c33)] ⟨rfl, rfl, rfl, rfl, rfl, rfl, trivial⟩ fun σ => ?_
  refine gseq fun N4 hN4 => ?_
  refine greg ?_
  refine gop (y_move (v := .slice _ _ _) rfl) rfl rfl rfl ?_
  refine gop (y_move (v := .slice A33 _ c33) rfl) rfl rfl rfl ?_
  refine gop_new (fun lo ws v => ∃ v1, v = .tuple #[v1, fv (runV text (evs es ++ [⟨2, user, th, 0, ⟨#[119, 101, 108, 108]⟩, []⟩])).1] ∧ NewL 1 intCells (pendR text (evs es ++ [⟨2, user, th, 0, ⟨#[119, 101, 108, 108]⟩, []⟩])) lo ws v1) (e_call (vs := [.slice _ _ _, .slice A33 _ c33]) Try.func25 rfl (by kernel_rfl) rfl) (fun w hM => by have hr : EvsR w 0 A33 (es ++ [⟨2, user, th, 0, ⟨#[119, 101, 108, 108]⟩, none, 0, []⟩]) := ⟨(Rdl.of_own (f := evCells) (fun _ => rfl) (hM.own 2 rfl)).mono (Nat.zero_le _), fun q hq => (List.mem_append.1 hq).elim (fun h => EvR.lasts.base (he.each q h) hM) (fun h => by rw [List.mem_singleton.1 h]; exact ⟨PatR.nil⟩)⟩; have hc := pending_any w B d text (ht.base hM) htb A33 c33 (es ++ [⟨2, user, th, 0, ⟨#[119, 101, 108, 108]⟩, none, 0, []⟩]) hr (by simp; omega); rw [show evs (es ++ [⟨2, user, th, 0, ⟨#[119, 101, 108, 108]⟩, none, 0, []⟩]) = evs es ++ [⟨2, user, th, 0, ⟨#[119, 101, 108, 108]⟩, []⟩] from List.map_append] at hc; exact hc.mono fun _ _ ⟨v1, h1, h2, h3⟩ => ⟨_, h1, h2, v1, rfl, h3⟩) rfl rfl rfl ?_
  rintro _ lo37 ws37 hlo37 ⟨_, rfl, A37, c37, rfl, hcc37, hcm37, hr37⟩
  refine gop (y_move (v := .tuple #[.slice _ _ _, .agg #[_, _]]) rfl) rfl rfl rfl ?_
  refine gop (y_extract (v := .slice _ _ _) rfl rfl) rfl rfl rfl ?_
  refine gop (y_extract (v := .agg #[_, _]) rfl rfl) rfl rfl rfl ?_
  refine gop_alloc (cs := #[.int .i64 0, .int .i64 0]) Try.zeroValue27 rfl rfl (fun b14 hb14 => ?_)
  refine gop (y_assign (v := .slice _ _ _) rfl) rfl rfl rfl ?_
  refine gop_store 5 (v := .agg #[_, _]) (cs' := #[_, _]) rfl rfl Try.sizeOf27 rfl rfl rfl rfl (Nat.le_of_ble_eq_true rfl) rfl rfl ?_
  refine gops_nil ?_
  refine hN4 _ _ ?_
  refine gT [seal_ _ _, box b11 _, rowl _ _ _ _ _ _, box b32 _, seal_ _ _, box b14 _] rfl ?_
  refine gfrom [(1, .slice _ _ _), (3, .int _ _), (9, .slice _ _ _), (11, .pointer _), (13, .slice _ _ _), (14, .pointer _)] ⟨rfl, rfl, rfl, rfl, rfl, rfl, trivial⟩ fun σ => ?_
  refine gseq fun N5 hN5 => ?_
  refine gseq fun N6 hN6 => ?_
  refine greg ?_
  refine gop_pure (e_call (vs := []) Try.func27 rfl (by kernel_rfl) rfl) (fun w hM => threadsExample_any w) rfl rfl rfl ?_
  refine gop (y_not rfl) rfl rfl rfl ?_
  refine gops_nil ?_
  refine hN6 _ _ ?_
  refine gfrom [(1, .slice _ _ _), (3, .int _ _), (9, .slice _ _ _), (11, .pointer _), (13, .slice _ _ _), (14, .pointer _), (41, .bool _)] ⟨rfl, rfl, rfl, rfl, rfl, rfl, rfl, trivial⟩ fun σ => ?_
  refine gcond (b := _) rfl (fun hc41 => ?_) (fun hc41 => ?_)
  · -- slot 41 t
    simp at hc41
  · -- slot 41 f
    replace hc41 := not_f hc41
    refine gskip ?_
    refine hN5 _ _ ?_
    refine gfrom [(1, .slice _ _ _), (3, .int _ _), (9, .slice _ _ _), (11, .pointer _), (13, .slice _ _ _), (14, .pointer _)] ⟨rfl, rfl, rfl, rfl, rfl, rfl, trivial⟩ fun σ => ?_
    refine gseq fun N7 hN7 => ?_
    refine greg ?_
    refine gop (y_assign (v := .int _ _) rfl) rfl rfl rfl ?_
    refine gops_nil ?_
    refine hN7 _ _ ?_
    refine gfrom [(1, .slice _ _ _), (3, .int _ _), (9, .slice _ _ _), (11, .pointer _), (13, .slice _ _ _), (14, .pointer _), (15, .int _ _)] ⟨rfl, rfl, rfl, rfl, rfl, rfl, rfl, trivial⟩ fun σ => ?_
    refine gseq fun N8 hN8 => ?_
    refine gseq fun N9 hN9 => ?_
    refine greg ?_
    refine gop (y_assign (v := .int _ _) rfl) rfl rfl rfl ?_
    refine gops_nil ?_
    refine hN9 _ _ ?_
    refine gfrom [(1, .slice _ _ _), (3, .int _ _), (9, .slice _ _ _), (11, .pointer _), (13, .slice _ _ _), (14, .pointer _), (15, .int _ _), (16, .int _ _)] ⟨rfl, rfl, rfl, rfl, rfl, rfl, rfl, rfl, trivial⟩ fun σ => ?_
    refine gblock ?_
    refine gfrom2 [(15, .int _ _), (16, .int _ _)] [(1, .slice _ _ _), (3, .int _ _), (9, .slice _ _ _), (11, .pointer _), (13, .slice _ _ _), (14, .pointer _)] ⟨rfl, rfl, trivial⟩ ⟨rfl, rfl, rfl, rfl, rfl, rfl, trivial⟩ fun σ => ?_
    refine gloop2 (G := Nat) (fun k => k ≤ es.length) (fun k => es.length - k) (fun k => [(15, .int .i64 ((saidK (evs es) k : Nat) : Int)), (16, .int .i64 (k : Int))]) (fun k => []) (0) ?h0 ⟨rfl, rfl, trivial⟩ ⟨rfl, rfl, rfl, rfl, rfl, rfl, trivial⟩ rfl ?round
    case h0 => exact Nat.zero_le _
    case round =>
      intro k hφ σ
      have hk := hφ
      refine gseq fun N10 hN10 => ?_
      refine gseq fun N11 hN11 => ?_
      refine greg ?_
      refine gop (y_move (v := .int _ _) rfl) rfl rfl rfl ?_
      refine gop (y_move (v := .slice _ _ _) rfl) rfl rfl rfl ?_
      refine gop (y_len Try.underlying54 rfl) rfl rfl rfl ?_
      refine gop (y_lss rfl rfl) rfl rfl rfl ?_
      refine gops_nil ?_
      refine hN11 _ _ ?_
      refine gfrom [(1, .slice _ _ _), (3, .int _ _), (9, .slice _ _ _), (11, .pointer _), (13, .slice _ _ _), (14, .pointer _), (15, .int _ _), (16, .int _ _), (45, .bool _)] ⟨rfl, rfl, rfl, rfl, rfl, rfl, rfl, rfl, rfl, trivial⟩ fun σ => ?_
      refine gcond (b := _) rfl (fun hc45 => ?_) (fun hc45 => ?_)
      · -- slot 45 t
        replace hc45 := of_decide_eq_true hc45
        have hk1 : k < es.length := by omega
        have hk2 : k < (evs es).length := by simpa using hk1
        obtain ⟨ad, rfl, -, hcv⟩ := he.rd.at_ hk1
        have hsl := saidK_le (evs es) k
        refine gskip ?_
        refine hN10 _ _ ?_
        refine gfrom [(1, .slice _ _ _), (3, .int _ _), (9, .slice _ _ _), (11, .pointer _), (13, .slice _ _ _), (14, .pointer _), (15, .int _ _), (16, .int _ _)] ⟨rfl, rfl, rfl, rfl, rfl, rfl, rfl, rfl, trivial⟩ fun σ => ?_
        refine gseq fun N12 hN12 => ?_
        refine gblock ?_
        refine gseq fun N13 hN13 => ?_
        refine greg ?_
        refine gop (y_move (v := .slice _ _ _) rfl) rfl rfl rfl ?_
        refine gop (y_move (v := .int _ _) rfl) rfl rfl rfl ?_
        refine gop (y_indexAddr Try.underlying54 Try.sizeOf66 rfl rfl rfl (by omega) (by omega)) rfl rfl rfl ?_
        refine gop (y_fieldAddr_add fa66_0 rfl) rfl rfl rfl ?_
        refine gop (y_load Try.isAgg3 rfl (cell_base (hcv 0 _ rfl))) rfl rfl rfl ?_
        refine gop (y_eql rfl rfl) rfl rfl rfl ?_
        refine gop (y_move (v := .bool _) rfl) rfl rfl rfl ?_
        refine gop_if (want := false) rfl rfl rfl rfl rfl rfl (fun hg54 => ?_) (fun hg54 => ?_)
        · -- guard 54 on
          have hg54d := of_decide_eq_false hg54
          refine gop (y_bare (y_move (v := .slice _ _ _) rfl)) rfl rfl rfl ?_
          refine gop_on rfl rfl rfl rfl hg54 ?_
          refine gop (y_bare (y_move (v := .int _ _) rfl)) rfl rfl rfl ?_
          refine gop_on rfl rfl rfl rfl hg54 ?_
          refine gop (y_bare (y_indexAddr Try.underlying54 Try.sizeOf66 rfl rfl rfl (by omega) (by omega))) rfl rfl rfl ?_
          refine gop_on rfl rfl rfl rfl hg54 ?_
          refine gop (y_bare (y_fieldAddr_add fa66_0 rfl)) rfl rfl rfl ?_
          refine gop_on rfl rfl rfl rfl hg54 ?_
          refine gop (y_bare (y_load Try.isAgg3 rfl (cell_base (hcv 0 _ rfl)))) rfl rfl rfl ?_
          refine gop_on rfl rfl rfl rfl hg54 ?_
          refine gop (y_bare (y_eql rfl rfl)) rfl rfl rfl ?_
          refine gop (y_pick_f (v := .bool _) rfl hg54 rfl) rfl rfl rfl ?_
          refine gops_nil ?_
          refine hN13 _ _ ?_
          refine gfrom [(1, .slice _ _ _), (3, .int _ _), (9, .slice _ _ _), (11, .pointer _), (13, .slice _ _ _), (14, .pointer _), (15, .int _ _), (16, .int _ _), (61, .bool _)] ⟨rfl, rfl, rfl, rfl, rfl, rfl, rfl, rfl, rfl, trivial⟩ fun σ => ?_
          refine gcond (b := _) rfl (fun hc61 => ?_) (fun hc61 => ?_)
          · -- slot 61 t
            replace hc61 := of_decide_eq_true hc61
            have hsk := saidK_yes hk2 (by rw [List.getElem_map]; first | exact .inl hg54d | exact .inr hc61)
            refine greg ?_
            refine gop (y_move (v := .int _ _) rfl) rfl rfl rfl ?_
            refine gop (y_add rfl rfl ⟨by omega, by omega⟩) rfl rfl rfl ?_
            refine gop (y_assign (v := .int _ _) rfl) rfl rfl rfl ?_
            refine gops_nil ?_
            refine hN12 _ _ ?_
            refine gfrom [(1, .slice _ _ _), (3, .int _ _), (9, .slice _ _ _), (11, .pointer _), (13, .slice _ _ _), (14, .pointer _), (15, .int _ _), (16, .int _ _)] ⟨rfl, rfl, rfl, rfl, rfl, rfl, rfl, rfl, trivial⟩ fun σ => ?_
            refine greg ?_
            refine gop (y_move (v := .int _ _) rfl) rfl rfl rfl ?_
            refine gop (y_add rfl rfl ⟨by omega, by omega⟩) rfl rfl rfl ?_
            refine gop (y_assign (v := .int _ _) rfl) rfl rfl rfl ?_
            refine gops_nil ?_
            refine gnext2 (k + 1) (by omega) (show k + 1 ≤ _ by omega) ⟨(congrArg (Value.int .i64) (by rw [hsk]; rfl)), rfl, trivial⟩ ⟨rfl, rfl, rfl, rfl, rfl, rfl, trivial⟩ ⟨_, rfl⟩
          · -- slot 61 f
            replace hc61 := of_decide_eq_false hc61
            have hsk := saidK_no hk2 (by rw [List.getElem_map]; rintro (h | h); exact hg54d h; exact hc61 h)
            refine gskip ?_
            refine hN12 _ _ ?_
            refine gfrom [(1, .slice _ _ _), (3, .int _ _), (9, .slice _ _ _), (11, .pointer _), (13, .slice _ _ _), (14, .pointer _), (15, .int _ _), (16, .int _ _)] ⟨rfl, rfl, rfl, rfl, rfl, rfl, rfl, rfl, trivial⟩ fun σ => ?_
            refine greg ?_
            refine gop (y_move (v := .int _ _) rfl) rfl rfl rfl ?_
            refine gop (y_add rfl rfl ⟨by omega, by omega⟩) rfl rfl rfl ?_
            refine gop (y_assign (v := .int _ _) rfl) rfl rfl rfl ?_
            refine gops_nil ?_
            refine gnext2 (k + 1) (by omega) (show k + 1 ≤ _ by omega) ⟨(congrArg (Value.int .i64) (by rw [hsk])), rfl, trivial⟩ ⟨rfl, rfl, rfl, rfl, rfl, rfl, trivial⟩ ⟨_, rfl⟩
        · -- guard 54 off
          have hg54d := of_decide_eq_true hg54
          refine gop_off rfl rfl rfl rfl hg54 rfl rfl ?_
          refine gop_off rfl rfl rfl rfl hg54 rfl rfl ?_
          refine gop_off rfl rfl rfl rfl hg54 rfl rfl ?_
          refine gop_off rfl rfl rfl rfl hg54 rfl rfl ?_
          refine gop_off rfl rfl rfl rfl hg54 rfl rfl ?_
          refine gop (y_pick_t (v := .bool _) rfl hg54 rfl) rfl rfl rfl ?_
          refine gops_nil ?_
          refine hN13 _ _ ?_
          refine gfrom [(1, .slice _ _ _), (3, .int _ _), (9, .slice _ _ _), (11, .pointer _), (13, .slice _ _ _), (14, .pointer _), (15, .int _ _), (16, .int _ _), (61, .bool _)] ⟨rfl, rfl, rfl, rfl, rfl, rfl, rfl, rfl, rfl, trivial⟩ fun σ => ?_
          refine gcond (b := _) rfl (fun hc61 => ?_) (fun hc61 => ?_)
          · -- slot 61 t
            have hsk := saidK_yes hk2 (by rw [List.getElem_map]; first | exact .inl hg54d | exact .inr hc61)
            refine greg ?_
            refine gop (y_move (v := .int _ _) rfl) rfl rfl rfl ?_
            refine gop (y_add rfl rfl ⟨by omega, by omega⟩) rfl rfl rfl ?_
            refine gop (y_assign (v := .int _ _) rfl) rfl rfl rfl ?_
            refine gops_nil ?_
            refine hN12 _ _ ?_
            refine gfrom [(1, .slice _ _ _), (3, .int _ _), (9, .slice _ _ _), (11, .pointer _), (13, .slice _ _ _), (14, .pointer _), (15, .int _ _), (16, .int _ _)] ⟨rfl, rfl, rfl, rfl, rfl, rfl, rfl, rfl, trivial⟩ fun σ => ?_
            refine greg ?_
            refine gop (y_move (v := .int _ _) rfl) rfl rfl rfl ?_
            refine gop (y_add rfl rfl ⟨by omega, by omega⟩) rfl rfl rfl ?_
            refine gop (y_assign (v := .int _ _) rfl) rfl rfl rfl ?_
            refine gops_nil ?_
            refine gnext2 (k + 1) (by omega) (show k + 1 ≤ _ by omega) ⟨(congrArg (Value.int .i64) (by rw [hsk]; rfl)), rfl, trivial⟩ ⟨rfl, rfl, rfl, rfl, rfl, rfl, trivial⟩ ⟨_, rfl⟩
          · -- slot 61 f
            cases hc61
      · -- slot 45 f
        replace hc45 := of_decide_eq_false hc45
        obtain rfl : k = es.length := by omega
        have hsl := saidK_le (evs es) es.length
        refine gexit ?_
        refine hN8 _ _ ?_
        refine gfrom [(3, .int _ _), (9, .slice _ _ _), (11, .pointer _), (13, .slice _ _ _), (14, .pointer _), (15, .int _ _)] ⟨rfl, rfl, rfl, rfl, rfl, rfl, trivial⟩ fun σ => ?_
        refine gseq fun N14 hN14 => ?_
        refine gseq fun N15 hN15 => ?_
        refine greg ?_
        refine gop (y_assign (v := .int _ _) rfl) rfl rfl rfl ?_
        refine gops_nil ?_
        refine hN15 _ _ ?_
        refine gfrom [(3, .int _ _), (9, .slice _ _ _), (11, .pointer _), (13, .slice _ _ _), (14, .pointer _), (15, .int _ _), (17, .int _ _)] ⟨rfl, rfl, rfl, rfl, rfl, rfl, rfl, trivial⟩ fun σ => ?_
        refine gblock ?_
        refine gfrom2 [(15, .int _ _), (17, .int _ _)] [(3, .int _ _), (9, .slice _ _ _), (11, .pointer _), (13, .slice _ _ _), (14, .pointer _)] ⟨rfl, rfl, trivial⟩ ⟨rfl, rfl, rfl, rfl, rfl, trivial⟩ fun σ => ?_
        refine gloop2 (G := Nat) (fun k => k ≤ (runV text (evs es)).2.1.length) (fun k => (runV text (evs es)).2.1.length - k) (fun k => [(15, .int .i64 (((saidK (evs es) es.length : Nat) : Int) - sumC ((runV text (evs es)).2.1.take k))), (17, .int .i64 (k : Int))]) (fun k => []) (0) ?h0 ⟨(congrArg (Value.int .i64) (by simp [sumC])), rfl, trivial⟩ ⟨rfl, rfl, rfl, rfl, rfl, trivial⟩ rfl ?round
        case h0 => exact Nat.zero_le _
        case round =>
          intro k hφ σ
          have hk := hφ
          refine gseq fun N16 hN16 => ?_
          refine gseq fun N17 hN17 => ?_
          refine greg ?_
          refine gop (y_move (v := .int _ _) rfl) rfl rfl rfl ?_
          refine gop (y_move (v := .slice _ _ _) rfl) rfl rfl rfl ?_
          refine gop (y_len Try.underlying55 rfl) rfl rfl rfl ?_
          refine gop (y_lss rfl rfl) rfl rfl rfl ?_
          refine gops_nil ?_
          refine hN17 _ _ ?_
          refine gfrom [(3, .int _ _), (9, .slice _ _ _), (11, .pointer _), (13, .slice _ _ _), (14, .pointer _), (15, .int _ _), (17, .int _ _), (67, .bool _)] ⟨rfl, rfl, rfl, rfl, rfl, rfl, rfl, rfl, trivial⟩ fun σ => ?_
          refine gcond (b := _) rfl (fun hc67 => ?_) (fun hc67 => ?_)
          · -- slot 67 t
            replace hc67 := of_decide_eq_true hc67
            have hk1 : k < (runV text (evs es)).2.1.length := by omega
            have hz : (runV text (evs es)).1 = ⟨0, 0⟩ := Classical.byContradiction fun h => by rw [runV_bad h] at hk1; simp at hk1
            obtain ⟨_, _, _, hri⟩ := runV_ok hz
            have hsb := sumC_bd hri.clo hri.chi k hk
            have hfw := hri.few
            have hc1 := hri.clo _ (List.getElem_mem hk1)
            have hc2 := hri.chi _ (List.getElem_mem hk1)
            obtain ⟨ad, rfl, hlo1, hcl1⟩ := hr23.at_ hk1
            refine gskip ?_
            refine hN16 _ _ ?_
            refine gfrom [(3, .int _ _), (9, .slice _ _ _), (11, .pointer _), (13, .slice _ _ _), (14, .pointer _), (15, .int _ _), (17, .int _ _)] ⟨rfl, rfl, rfl, rfl, rfl, rfl, rfl, trivial⟩ fun σ => ?_
            refine gseq fun N18 hN18 => ?_
            refine gblock ?_
            refine greg ?_
            refine gop (y_move (v := .int _ _) rfl) rfl rfl rfl ?_
            refine gop (y_move (v := .slice _ _ _) rfl) rfl rfl rfl ?_
            refine gop (y_move (v := .int _ _) rfl) rfl rfl rfl ?_
            refine gop (y_indexAddr Try.underlying55 Try.sizeOf60 rfl rfl rfl (by omega) (by omega)) rfl rfl rfl ?_
            refine gop (y_fieldAddr_add fa60_2 rfl) rfl rfl rfl ?_
            refine gop (y_load Try.isAgg3 rfl (cell_seal 0 rfl (by rw [block_add]; exact hlo1) (hcl1 2 _ rfl))) rfl rfl rfl ?_
            refine gop (y_sub rfl rfl ⟨by omega, by omega⟩) rfl rfl rfl ?_
            refine gop (y_assign (v := .int _ _) rfl) rfl rfl rfl ?_
            refine gops_nil ?_
            refine hN18 _ _ ?_
            refine gfrom [(3, .int _ _), (9, .slice _ _ _), (11, .pointer _), (13, .slice _ _ _), (14, .pointer _), (15, .int _ _), (17, .int _ _)] ⟨rfl, rfl, rfl, rfl, rfl, rfl, rfl, trivial⟩ fun σ => ?_
            refine greg ?_
            refine gop (y_move (v := .int _ _) rfl) rfl rfl rfl ?_
            refine gop (y_add rfl rfl ⟨by omega, by omega⟩) rfl rfl rfl ?_
            refine gop (y_assign (v := .int _ _) rfl) rfl rfl rfl ?_
            refine gops_nil ?_
            refine gnext2 (k + 1) (by omega) (show k + 1 ≤ _ by omega) ⟨(congrArg (Value.int .i64) (by rw [sumC_take hk1]; omega)), rfl, trivial⟩ ⟨rfl, rfl, rfl, rfl, rfl, trivial⟩ ⟨_, rfl⟩
          · -- slot 67 f
            replace hc67 := of_decide_eq_false hc67
            have hkk : (runV text (evs es)).2.1.take k = (runV text (evs es)).2.1 := List.take_of_length_le (by omega)
            refine gexit ?_
            refine hN14 _ _ ?_
            refine gfrom [(3, .int _ _), (11, .pointer _), (13, .slice _ _ _), (14, .pointer _), (15, .int _ _)] ⟨rfl, rfl, rfl, rfl, rfl, trivial⟩ fun σ => ?_
            refine gseq fun N19 hN19 => ?_
            refine greg ?_
            refine gop (y_assign (v := .bool _) rfl) rfl rfl rfl ?_
            refine gops_nil ?_
            refine hN19 _ _ ?_
            refine gfrom [(3, .int _ _), (11, .pointer _), (13, .slice _ _ _), (14, .pointer _), (15, .int _ _), (18, .bool _)] ⟨rfl, rfl, rfl, rfl, rfl, rfl, trivial⟩ fun σ => ?_
            refine gseq fun N20 hN20 => ?_
            refine gseq fun N21 hN21 => ?_
            refine greg ?_
            refine gop (y_assign (v := .int _ _) rfl) rfl rfl rfl ?_
            refine gops_nil ?_
            refine hN21 _ _ ?_
            refine gfrom [(3, .int _ _), (11, .pointer _), (13, .slice _ _ _), (14, .pointer _), (15, .int _ _), (18, .bool _), (19, .int _ _)] ⟨rfl, rfl, rfl, rfl, rfl, rfl, rfl, trivial⟩ fun σ => ?_
            refine gblock ?_
            refine gfrom2 [(18, .bool _), (19, .int _ _)] [(3, .int _ _), (11, .pointer _), (13, .slice _ _ _), (14, .pointer _), (15, .int _ _)] ⟨rfl, rfl, trivial⟩ ⟨rfl, rfl, rfl, rfl, rfl, trivial⟩ fun σ => ?_
            refine gloop2 (G := Nat) (fun j => j ≤ (pendR text (evs es ++ [⟨2, user, th, 0, ⟨#[119, 101, 108, 108]⟩, []⟩])).length) (fun j => (pendR text (evs es ++ [⟨2, user, th, 0, ⟨#[119, 101, 108, 108]⟩, []⟩])).length - j) (fun j => [(18, .bool (((pendR text (evs es ++ [⟨2, user, th, 0, ⟨#[119, 101, 108, 108]⟩, []⟩])).take j).any fun x => decide (x = th))), (19, .int .i64 (j : Int))]) (fun j => []) (0) ?h0 ⟨rfl, rfl, trivial⟩ ⟨rfl, rfl, rfl, rfl, rfl, trivial⟩ rfl ?round
            case h0 => exact Nat.zero_le _
            case round =>
              intro j hφ σ
              have hj := hφ
              refine gseq fun N22 hN22 => ?_
              refine gseq fun N23 hN23 => ?_
              refine greg ?_
              refine gop (y_move (v := .int _ _) rfl) rfl rfl rfl ?_
              refine gop (y_move (v := .slice _ _ _) rfl) rfl rfl rfl ?_
              refine gop (y_len Try.underlying30 rfl) rfl rfl rfl ?_
              refine gop (y_lss rfl rfl) rfl rfl rfl ?_
              refine gops_nil ?_
              refine hN23 _ _ ?_
              refine gfrom [(3, .int _ _), (11, .pointer _), (13, .slice _ _ _), (14, .pointer _), (15, .int _ _), (18, .bool _), (19, .int _ _), (80, .bool _)] ⟨rfl, rfl, rfl, rfl, rfl, rfl, rfl, rfl, trivial⟩ fun σ => ?_
              refine gcond (b := _) rfl (fun hc80 => ?_) (fun hc80 => ?_)
              · -- slot 80 t
                replace hc80 := of_decide_eq_true hc80
                have hj1 : j < (pendR text (evs es ++ [⟨2, user, th, 0, ⟨#[119, 101, 108, 108]⟩, []⟩])).length := by omega
                obtain ⟨ad, rfl, hlo1, hcl1⟩ := hr37.at_ hj1
                have hat := any_take (fun x => decide (x = th)) (pendR text (evs es ++ [⟨2, user, th, 0, ⟨#[119, 101, 108, 108]⟩, []⟩])) j hj1
                refine gskip ?_
                refine hN22 _ _ ?_
                refine gfrom [(3, .int _ _), (11, .pointer _), (13, .slice _ _ _), (14, .pointer _), (15, .int _ _), (18, .bool _), (19, .int _ _)] ⟨rfl, rfl, rfl, rfl, rfl, rfl, rfl, trivial⟩ fun σ => ?_
                refine gseq fun N24 hN24 => ?_
                refine gblock ?_
                refine greg ?_
                refine gop (y_move (v := .bool _) rfl) rfl rfl rfl ?_
                refine gop (y_move (v := .bool _) rfl) rfl rfl rfl ?_
                refine gop_if (want := false) rfl rfl rfl rfl rfl rfl (fun hg84 => ?_) (fun hg84 => ?_)
                · -- guard 84 on
                  have hg84d := hg84
                  refine gop (y_bare (y_move (v := .slice _ _ _) rfl)) rfl rfl rfl ?_
                  refine gop_on rfl rfl rfl rfl hg84 ?_
                  refine gop (y_bare (y_move (v := .int _ _) rfl)) rfl rfl rfl ?_
                  refine gop_on rfl rfl rfl rfl hg84 ?_
                  refine gop (y_bare (y_indexAddr Try.underlying30 Try.sizeOf3 rfl rfl rfl (by omega) (by omega))) rfl rfl rfl ?_
                  refine gop_on rfl rfl rfl rfl hg84 ?_
                  refine gop (y_bare (y_load Try.isAgg3 rfl (cell_seal 4 rfl (by rw [block_add]; exact hlo1) (hcl1 0 _ rfl)))) rfl rfl rfl ?_
                  refine gop_on rfl rfl rfl rfl hg84 ?_
                  refine gop (y_bare (y_move (v := .int _ _) rfl)) rfl rfl rfl ?_
                  refine gop_on rfl rfl rfl rfl hg84 ?_
                  refine gop (y_bare (y_eql rfl rfl)) rfl rfl rfl ?_
                  refine gop (y_pick_f (v := .bool _) rfl hg84 rfl) rfl rfl rfl ?_
                  refine gop (y_assign (v := .bool _) rfl) rfl rfl rfl ?_
                  refine gops_nil ?_
                  refine hN24 _ _ ?_
                  refine gfrom [(3, .int _ _), (11, .pointer _), (13, .slice _ _ _), (14, .pointer _), (15, .int _ _), (18, .bool _), (19, .int _ _)] ⟨rfl, rfl, rfl, rfl, rfl, rfl, rfl, trivial⟩ fun σ => ?_
                  refine greg ?_
                  refine gop (y_move (v := .int _ _) rfl) rfl rfl rfl ?_
                  refine gop (y_add rfl rfl ⟨by omega, by omega⟩) rfl rfl rfl ?_
                  refine gop (y_assign (v := .int _ _) rfl) rfl rfl rfl ?_
                  refine gops_nil ?_
                  refine gnext2 (j + 1) (by omega) (show j + 1 ≤ _ by omega) ⟨(congrArg Value.bool (by rw [hat, hg84]; simp)), rfl, trivial⟩ ⟨rfl, rfl, rfl, rfl, rfl, trivial⟩ ⟨_, rfl⟩
                · -- guard 84 off
                  have hg84d := hg84
                  refine gop_off rfl rfl rfl rfl hg84 rfl rfl ?_
                  refine gop_off rfl rfl rfl rfl hg84 rfl rfl ?_
                  refine gop_off rfl rfl rfl rfl hg84 rfl rfl ?_
                  refine gop_off rfl rfl rfl rfl hg84 rfl rfl ?_
                  refine gop_off rfl rfl rfl rfl hg84 rfl rfl ?_
                  refine gop (y_pick_t (v := .bool _) rfl hg84 rfl) rfl rfl rfl ?_
                  refine gop (y_assign (v := .bool _) rfl) rfl rfl rfl ?_
                  refine gops_nil ?_
                  refine hN24 _ _ ?_
                  refine gfrom [(3, .int _ _), (11, .pointer _), (13, .slice _ _ _), (14, .pointer _), (15, .int _ _), (18, .bool _), (19, .int _ _)] ⟨rfl, rfl, rfl, rfl, rfl, rfl, rfl, trivial⟩ fun σ => ?_
                  refine greg ?_
                  refine gop (y_move (v := .int _ _) rfl) rfl rfl rfl ?_
                  refine gop (y_add rfl rfl ⟨by omega, by omega⟩) rfl rfl rfl ?_
                  refine gop (y_assign (v := .int _ _) rfl) rfl rfl rfl ?_
                  refine gops_nil ?_
                  refine gnext2 (j + 1) (by omega) (show j + 1 ≤ _ by omega) ⟨(congrArg Value.bool (by rw [hat, hg84]; simp)), rfl, trivial⟩ ⟨rfl, rfl, rfl, rfl, rfl, trivial⟩ ⟨_, rfl⟩
              · -- slot 80 f
                replace hc80 := of_decide_eq_false hc80
                have hjj : (pendR text (evs es ++ [⟨2, user, th, 0, ⟨#[119, 101, 108, 108]⟩, []⟩])).take j = pendR text (evs es ++ [⟨2, user, th, 0, ⟨#[119, 101, 108, 108]⟩, []⟩]) := List.take_of_length_le (by omega)
                refine gexit ?_
                refine hN20 _ _ ?_
                refine gfrom [(11, .pointer _), (14, .pointer _), (15, .int _ _), (18, .bool _)] ⟨rfl, rfl, rfl, rfl, trivial⟩ fun σ => ?_
                refine gseq fun N25 hN25 => ?_
                refine greg ?_
                refine gop (y_fieldAddr_box fa27_0 rfl) rfl rfl rfl ?_
                refine gop (y_load Try.isAgg3 rfl (cell_box 1 rfl rfl)) rfl rfl rfl ?_
                refine gop (y_neq rfl rfl) rfl rfl rfl ?_
                refine gop (y_move (v := .bool _) rfl) rfl rfl rfl ?_
                refine gop_if (want := false) rfl rfl rfl rfl rfl rfl (fun hg95 => ?_) (fun hg95 => ?_)
                · -- guard 95 on
                  have hg95d := Decidable.not_not.1 (of_decide_eq_false hg95)
                  refine gop (y_bare (y_move (v := .int _ _) rfl)) rfl rfl rfl ?_
                  refine gop_on rfl rfl rfl rfl hg95 ?_
                  refine gop (y_bare (y_eql rfl rfl)) rfl rfl rfl ?_
                  refine gop_on rfl rfl rfl rfl hg95 ?_
                  refine gop (y_bare (y_move (v := .bool _) rfl)) rfl rfl rfl ?_
                  refine gop_if (want := true) rfl rfl rfl rfl rfl rfl (fun hg98 => ?_) (fun hg98 => ?_)
                  · -- guard 98 on
                    have hg98d := of_decide_eq_true hg98
                    refine gop (y_bare (y_fieldAddr_box fa27_0 rfl)) rfl rfl rfl ?_
                    refine gop_on rfl rfl rfl rfl hg98 ?_
                    refine gop (y_bare (y_load Try.isAgg3 rfl (cell_box 5 rfl rfl))) rfl rfl rfl ?_
                    refine gop_on rfl rfl rfl rfl hg98 ?_
                    refine gop (y_bare (y_neq rfl rfl)) rfl rfl rfl ?_
                    refine gop_on rfl rfl rfl rfl hg98 ?_
                    refine gop (y_bare (y_move (v := .bool _) rfl)) rfl rfl rfl ?_
                    refine gop_if (want := false) rfl rfl rfl rfl rfl rfl (fun hg102 => ?_) (fun hg102 => ?_)
                    · -- guard 102 on
                      have hg102d := Decidable.not_not.1 (of_decide_eq_false hg102)
                      refine gop (y_bare (y_move (v := .bool _) rfl)) rfl rfl rfl ?_
                      refine gop_on rfl rfl rfl rfl hg98 ?_
                      refine gop (y_bare (y_pick_f (v := .bool _) rfl hg102 rfl)) rfl rfl rfl ?_
                      refine gop_on rfl rfl rfl rfl hg95 ?_
                      refine gop (y_bare (y_pick_t (v := .bool _) rfl hg98 rfl)) rfl rfl rfl ?_
                      refine gop (y_pick_f (v := .bool _) rfl hg95 rfl) rfl rfl rfl ?_
                      refine gop (y_assign (v := .bool _) rfl) rfl rfl rfl ?_
                      refine gops_nil ?_
                      refine hN25 _ _ ?_
                      refine gfrom [(8, .bool _)] ⟨rfl, trivial⟩ fun σ => ?_
                      refine gret fun w1 hM => ?_
                      refine ⟨_, res1 rfl (rt (v := .bool _) rfl), ?_⟩
                      first | exact ⟨by rw [hjj, List.any_eq_true.2 ⟨th, run_reply (e := ⟨2, user, th, 0, ⟨#[119, 101, 108, 108]⟩, []⟩) rfl (runV_code hg102d), by simp⟩], hM.low⟩ | exact ⟨rfl, hM.low⟩
                    · -- guard 102 off
                      have hg102d := of_decide_eq_true hg102
                      refine gop_on rfl rfl rfl rfl hg98 ?_
                      refine gop (y_bare (y_pick_t (v := .bool _) rfl hg102 rfl)) rfl rfl rfl ?_
                      refine gop_on rfl rfl rfl rfl hg95 ?_
                      refine gop (y_bare (y_pick_t (v := .bool _) rfl hg98 rfl)) rfl rfl rfl ?_
                      refine gop (y_pick_f (v := .bool _) rfl hg95 rfl) rfl rfl rfl ?_
                      refine gop (y_assign (v := .bool _) rfl) rfl rfl rfl ?_
                      refine gops_nil ?_
                      refine hN25 _ _ ?_
                      refine gfrom [(8, .bool _)] ⟨rfl, trivial⟩ fun σ => ?_
                      refine gret fun w1 hM => ?_
                      refine ⟨_, res1 rfl (rt (v := .bool _) rfl), ?_⟩
                      first | exact ⟨by rw [hjj, List.any_eq_true.2 ⟨th, run_reply (e := ⟨2, user, th, 0, ⟨#[119, 101, 108, 108]⟩, []⟩) rfl (runV_code hg102d), by simp⟩], hM.low⟩ | exact ⟨rfl, hM.low⟩
                  · -- guard 98 off
                    refine absurd (of_decide_eq_false hg98) (fun hn => hn ?_)
                    have h5 := (run_opens (runV_code hg95d) (evs es).length (Nat.le_refl _)).2
                    rw [List.take_length] at h5
                    rw [hkk, h5, List.length_map]; omega
                · -- guard 95 off
                  have hg95d := of_decide_eq_true hg95
                  refine gop_off rfl rfl rfl rfl hg95 rfl rfl ?_
                  refine gop_off rfl rfl rfl rfl hg95 rfl rfl ?_
                  refine gop_offu rfl rfl rfl rfl rfl rfl ?_
                  refine gop_offu rfl rfl rfl rfl rfl rfl ?_
                  refine gop_offu rfl rfl rfl rfl rfl rfl ?_
                  refine gop_offu rfl rfl rfl rfl rfl rfl ?_
                  refine gop_offu rfl rfl rfl rfl rfl rfl ?_
                  refine gop_offu rfl rfl rfl rfl rfl rfl ?_
                  refine gop_off rfl rfl rfl rfl hg95 rfl rfl ?_
                  refine gop (y_pick_t (v := .bool _) rfl hg95 rfl) rfl rfl rfl ?_
                  refine gop (y_assign (v := .bool _) rfl) rfl rfl rfl ?_
                  refine gops_nil ?_
                  refine hN25 _ _ ?_
                  refine gfrom [(8, .bool _)] ⟨rfl, trivial⟩ fun σ => ?_
                  refine gret fun w1 hM => ?_
                  refine ⟨_, res1 rfl (rt (v := .bool _) rfl), ?_⟩
                  first | exact ⟨by rw [hjj, List.any_eq_true.2 ⟨th, run_reply (e := ⟨2, user, th, 0, ⟨#[119, 101, 108, 108]⟩, []⟩) rfl (runV_code hg102d), by simp⟩], hM.low⟩ | exact ⟨rfl, hM.low⟩
end Go.Proofs.Ytbaojdiccikbiaa
