/- Own frame, plain models and walks, part 4 (texts of this claim put together). -/
import Derived.Test.YtbkameioedmlkaaGreatDoorP40c
import Derived.Ground.Names8Prog
import Derived.Lib.RowBridge
import Derived.Shelf.SlGeneric
import Derived.Shelf.Spec.SlicesGrow
import Derived.Sort.OwnSorted
namespace Go.Proofs.YtbkameioedmlkaaGreatDoor
open Go.RowKit Go.Cf
set_option maxRecDepth 10000
theorem JJ (a : Addr) (w : World) : (Instr.fieldAt 92 (.pointer (some a)) 0).run Tryz.prog w = .ok (.pointer (some (a.add 0))) w := by kernel_rfl
theorem fa92_1 (a : Addr) (w : World) : (Instr.fieldAt 92 (.pointer (some a)) 1).run Tryz.prog w = .ok (.pointer (some (a.add 1))) w := by kernel_rfl
theorem fa92_2 (a : Addr) (w : World) : (Instr.fieldAt 92 (.pointer (some a)) 2).run Tryz.prog w = .ok (.pointer (some (a.add 2))) w := by kernel_rfl
theorem bd190_0_1 (x1 : Option Addr) (x1l x1c : Nat) (x2 : Option Addr) (x2l x2c : Nat) : Tryz.prog.built 190 [(0, .slice x1 x1l x1c), (1, .slice x2 x2l x2c)] = some #[.slice x1 x1l x1c, .slice x2 x2l x2c] := by kernel_rfl
theorem Qg (a : Addr) (w : World) : (Instr.fieldAt 27 (.pointer (some a)) 0).run Tryz.prog w = .ok (.pointer (some (a.add 0))) w := by kernel_rfl
set_option maxHeartbeats 1000000 in
theorem end_any (w : World) (h : HunkC) (hb : In64 h.pl.end_) : Calls Tryz.prog 63 #[hunkV h] w fun e w' => e = .returned (.int .i64 h.pl.end_) ∧ Below w.heap.size w w' := by
 unfold In64 Hunk.end_ at hb
 refine Kz Tryz.func63 U Tryz.ntmps63 (leb U) ?_
 refine Jb [(0,.agg #[_,_,_])] ⟨U,O⟩ fun σ => Jg fun N1 hN1 => Jk ?_
 refine Mt (v := .agg #[_,_,_]) (cs := #[_,_,_]) U U U (fun b1 hb1 => ?_)
 refine Jd (Jh U) U U U (Ja (hN1 _ _ (gT [box b1 _] U (Jb [(1,.pointer _)] ⟨U,O⟩ fun σ => Jg fun N2 hN2 => Jk (Jd (Jc JJ U) U U U (Jd (Jq Tryz.isAgg3 U (Jm 0 U U)) U U U (Jd (Jc fa92_1 U) U U U (Jd (Jq Tryz.isAgg22 U (Jm 0 U U)) U U U ?_))))))))
 refine Jd (Ks Tryz.underlying22 U) U U U (Jd (Kr U U ⟨by omega,by omega⟩) U U U (Jd (Jh U) U U U (Ja (hN2 _ _ (Jb [(2,.int _ _)] ⟨U,O⟩ fun σ => ?_)))))
 refine Ke fun w1 hM => ?_
 refine ⟨_,res1 rfl (rt (v := .int _ _) rfl),?_⟩
 exact ⟨rfl,hM.low⟩
set_option maxHeartbeats 1000000 in
theorem growth_any (w : World) (h : HunkC) (hb : In64 h.pl.growth) : Calls Tryz.prog 64 #[hunkV h] w fun e w' => e = .returned (.int .i64 h.pl.growth) ∧ Below w.heap.size w w' := by
 unfold In64 Hunk.growth at hb
 refine Kz Tryz.func64 U Tryz.ntmps64 (leb U) ?_
 refine Jb [(0,.agg #[_,_,_])] ⟨U,O⟩ fun σ => Jg fun N1 hN1 => Jk ?_
 refine Mt (v := .agg #[_,_,_]) (cs := #[_,_,_]) U U U (fun b1 hb1 => ?_)
 refine Jd (Jh U) U U U (Ja (hN1 _ _ (gT [box b1 _] U (Jb [(1,.pointer _)] ⟨U,O⟩ fun σ => Jg fun N2 hN2 => Jk (Jd (Jc fa92_2 U) U U U (Jd (Jq Tryz.isAgg22 U (Jm 0 U U)) U U U (Jd (Ks Tryz.underlying22 U) U U U (Jd (Jc fa92_1 U) U U U ?_))))))))
 refine Jd (Jq Tryz.isAgg22 U (Jm 0 U U)) U U U (Jd (Ks Tryz.underlying22 U) U U U (Jd (Zi U U ⟨by omega,by omega⟩) U U U (Jd (Jh U) U U U (Ja (hN2 _ _ (Jb [(2,.int _ _)] ⟨U,O⟩ fun σ => ?_))))))
 refine Ke fun w1 hM => ?_
 refine ⟨_,res1 rfl (rt (v := .int _ _) rfl),?_⟩
 exact ⟨rfl,hM.low⟩
set_option maxHeartbeats 1000000 in
theorem hunk_any (w : World) (h : HunkC) (hR : HunkR w 0 h) (en : Int) : Calls Tryz.prog 96 #[hunkV h, .int .i64 en] w fun e w' => e = .returned (.int .i64 (hunkC h.pl en)) ∧ Below w.heap.size w w' := by
 refine Kz Tryz.func96 U Tryz.ntmps96 (leb U) ?_
 refine Jb [(0,.agg #[_,_,_]),(1,.int _ _)] ⟨U,U,O⟩ fun σ => Jg fun N1 hN1 => Jk ?_
 refine Mt (v := .agg #[_,_,_]) (cs := #[_,_,_]) U U U (fun b2 hb2 => ?_)
 refine Jd (Jh U) U U U (Ja (hN1 _ _ (gT [box b2 _] U (Jb [(1,.int _ _),(2,.pointer _)] ⟨U,U,O⟩ fun σ => Jg fun N2 hN2 => Jg fun N3 hN3 => Jk (Jd (Jc JJ U) U U U (Jd (Jq Tryz.isAgg3 U (Jm 0 U U)) U U U (Jd (Me U U) U U U (Jd (Jn U) U U U ?_))))))))
 refine Kh (want := false) U U U U U U (fun hg11 => ?_) (fun hg11 => ?_)
 have hg11d := odf hg11
 refine Jd (Je (Jc JJ U)) U U U (Js U U U U hg11 (Jd (Je (Jq Tryz.isAgg3 U (Jm 0 U U))) U U U (Js U U U U hg11 (Jd (Je (Mh U U)) U U U (Jd (Jp U hg11 U) U U U (Ja (hN3 _ _ (Jb [(1,.int _ _),(2,.pointer _),(15,.bool _)] ⟨U,U,U,O⟩ fun σ => ?_))))))))
 refine Jt (b := _) U (fun hc15 => ?_) (fun hc15 => ?_)
 replace hc15 := odt hc15
 refine Jg fun N4 hN4 => Jk (Jd (Jh U) U U U (Ja (hN4 _ _ (Jb [(4,.int _ _)] ⟨U,O⟩ fun σ => ?_))))
 refine Ke fun w1 hM => ?_
 refine ⟨_,res1 rfl (rt (v := .int _ _) rfl),?_⟩
 exact ⟨by rw [hunkC,if_pos (by omega)],hM.low⟩
 replace hc15 := odf hc15
 have h15 : ¬ (h.pl.at_ < 0 ∨ 120 < h.pl.at_) := by omega
 refine Jw (hN2 _ _ (Jb [(1,.int _ _),(2,.pointer _)] ⟨U,U,O⟩ fun σ => Jg fun N5 hN5 => Jg fun N6 hN6 => Jk (Jd (Jc fa92_1 U) U U U (Jd (Jq Tryz.isAgg22 U (Jm 0 U U)) U U U (Jd (Jc fa92_2 U) U U U (Jd (Jq Tryz.isAgg22 U (Jm 0 U U)) U U U (Jd (Kd (vs := [(0,.slice _ _ _),(1,.slice _ _ _)]) (cells := #[_,_]) U (bd190_0_1 _ _ _ _ _ _)) U U U (Jd (Jf U) U U U ?_))))))))
 refine Ja (hN6 _ _ (Jb [(1,.int _ _),(2,.pointer _),(20,.agg #[_,_]),(21,.int _ _)] ⟨U,U,U,U,O⟩ fun σ => Kn ?_))
 refine Mm [(21,.int _ _)] [(1,.int _ _),(2,.pointer _),(20,.agg #[_,_])] ⟨U,O⟩ ⟨U,U,U,O⟩ fun σ => ?_
 refine Ml (G := Nat) (fun k => k ≤ 2 ∧ (0 < k → linesF h.pl.old = ⟨0,0⟩) ∧ (1 < k → linesF h.pl.new = ⟨0,0⟩)) (fun k => 2 - k) (fun k => [(21,.int .i64 (k : Int))]) (fun k => []) (0) ?h0 ⟨U,O⟩ ⟨U,U,U,O⟩ U ?round
 case h0 => exact ⟨by omega,by omega,by omega⟩
 case round =>
  intro k hφ σ
  obtain ⟨hk,hz0,hz1⟩ := hφ
  refine Jg fun N7 hN7 => Jk (Jd (Me U U) U U U (Ja (hN7 _ _ (Jb [(1,.int _ _),(2,.pointer _),(20,.agg #[_,_]),(21,.int _ _),(22,.bool _)] ⟨U,U,U,U,U,O⟩ fun σ => Jg fun N8 hN8 => ?_))))
  refine Jt (b := _) U (fun hc22 => ?_) (fun hc22 => ?_)
  replace hc22 := odt hc22
  have hk01 : k = 0 ∨ k = 1 := by omega
  obtain ⟨A',c',m,hidx,hrd,hml,hres⟩ : ∃ A' c' m,([.slice h.oA h.pl.old.length h.oc,.slice h.nA h.pl.new.length h.nc] : List Value)[k]? = some (.slice A' m.length c') ∧ Rdl w 0 1 strCells A' m ∧ m.length ≤ maxLen ∧ (k = 0 → m = h.pl.old) ∧ (k = 1 → m = h.pl.new) := by
    rcases hk01 with rfl | rfl
    · exact ⟨h.oA,h.oc,h.pl.old,rfl,hR.old,Nat.le_trans hR.ob.len hR.ob.max,fun _ => rfl,fun h => absurd h (by decide)⟩
    · exact ⟨h.nA,h.nc,h.pl.new,rfl,hR.new,Nat.le_trans hR.nb.len hR.nb.max,fun h => absurd h (by decide),fun _ => rfl⟩
  refine Jw (hN8 _ _ (Jb [(1,.int _ _),(2,.pointer _),(20,.agg #[_,_]),(21,.int _ _)] ⟨U,U,U,U,O⟩ fun σ => Jg fun N9 hN9 => Kn (Jg fun N10 hN10 => Jk (Jd (y_arridx1 (f := fun v : Value => v) (m := k) (l := [.slice h.oA h.pl.old.length h.oc,.slice h.nA h.pl.new.length h.nc]) (a := .slice A' m.length c') Tryz.underlying190 Tryz.sizeOf22 Tryz.isAgg22 U U U (by omega) (by omega) hidx) U U U (Jd (Kq U) U U U (Ja (hN10 _ _ (Jb [(1,.int _ _),(2,.pointer _),(6,.slice _ _ _),(20,.agg #[_,_]),(21,.int _ _)] ⟨U,U,U,U,U,O⟩ fun σ => ?_))))))))
  refine Jg fun N11 hN11 => Jk (Jd (Kl U) U U U ?_)
  refine Km (Kb (vs := [.slice _ _ _]) Tryz.func58 U (by kernel_rfl) U) (fun w hM => Uh w A' c' m (hrd.base hM) hml) U U U ?_
  refine Ka (cs := #[.int .i64 0,.int .i64 0]) Tryz.zeroValue33 U U (fun b7 hb7 => ?_)
  refine Jr 1 (v := .agg #[_,_]) (cs' := #[_,_]) U U Tryz.sizeOf33 U U U U (leb U) U U (Ja (hN11 _ _ (gT [box b2 _,box b7 _] U (Jb [(1,.int _ _),(2,.pointer _),(7,.pointer _),(20,.agg #[_,_]),(21,.int _ _)] ⟨U,U,U,U,U,O⟩ fun σ => Jg fun N12 hN12 => Jk (Jd (Kk (cs := [_,_]) Tryz.isAgg33 Tryz.sizeOf33 U U (Kf 1 U)) U U U (Jd (Kd (vs := []) (cells := #[.int .i64 0,.int .i64 0]) U Qh) U U U (Jd (Uk (vx := .agg #[_,_]) (vy := .agg #[_,_]) U U (fun w => eg33 _ _ _ _ _ w) (fun w => ne33 _ _ _ _ w)) U U U (Ja ?_))))))))
  refine hN12 _ _ (Jb [(1,.int _ _),(2,.pointer _),(7,.pointer _),(20,.agg #[_,_]),(21,.int _ _),(28,.bool _)] ⟨U,U,U,U,U,U,O⟩ fun σ => ?_)
  refine Jt (b := _) U (fun hc28 => ?_) (fun hc28 => ?_)
  replace hc28 := Qe.1 hc28
  have hC : hunkC h.pl en = (linesF m).code := by
    rcases hk01 with rfl | rfl
    · rw [hres.1 rfl] at hc28 ⊢; rw [hunkC,if_neg h15,if_pos hc28]
    · rw [hres.2 rfl] at hc28 ⊢; rw [hunkC,if_neg h15,if_neg (by simp [hz0 (by omega)]),if_pos hc28]
  refine Jg fun N13 hN13 => Jk (Jd (Jc Uo U) U U U (Jd (Jq Tryz.isAgg3 U (Jm 1 U U)) U U U (Jd (Jh U) U U U (Ja (hN13 _ _ (Jb [(4,.int _ _)] ⟨U,O⟩ fun σ => ?_))))))
  refine Ke fun w1 hM => ?_
  refine ⟨_,res1 rfl (rt (v := .int _ _) rfl),?_⟩
  exact ⟨by rw [hC],hM.low⟩
  replace hc28 := Qf.1 hc28
  refine Jw (hN9 _ _ (Jb [(1,.int _ _),(2,.pointer _),(20,.agg #[_,_]),(21,.int _ _)] ⟨U,U,U,U,O⟩ fun σ => Jk (Jd (Kr U U ⟨by omega,by omega⟩) U U U (Jd (Jf U) U U U (Ja ?_)))))
  refine Kt (k + 1) (by omega) (⟨by omega,fun _ => by rcases hk01 with rfl | rfl; exact hres.1 rfl ▸ hc28; exact hz0 (by omega),fun _ => by rcases hk01 with rfl | rfl; omega; exact hres.2 rfl ▸ hc28⟩) ⟨U,O⟩ ⟨U,U,U,O⟩ ⟨_,U⟩
  replace hc22 := odf hc22
  have hO := hz0 (by omega)
  have hN := hz1 (by omega)
  have hOl := Qu hO
  have hNl := Qu hN
  have hC : hunkC h.pl en = if h.pl.old.length + h.pl.new.length = 0 ∨ h.pl.at_ ≤ en then 5 else if 120 < h.pl.end_ then 3 else 0 := by rw [hunkC,if_neg h15,if_neg (by simp [hO]),if_neg (by simp [hN])]
  refine Mx ?_
  refine hN5 _ _ (Jb [(1,.int _ _),(2,.pointer _)] ⟨U,U,O⟩ fun σ => Jg fun N14 hN14 => Jg fun N15 hN15 => Jk (Jd (Jc fa92_1 U) U U U (Jd (Jq Tryz.isAgg22 U (Jm 0 U U)) U U U (Jd (Ks Tryz.underlying22 U) U U U (Jd (Jc fa92_2 U) U U U (Jd (Jq Tryz.isAgg22 U (Jm 0 U U)) U U U (Jd (Ks Tryz.underlying22 U) U U U (Jd (Kr U U ⟨by omega,by omega⟩) U U U ?_))))))))
  refine Jd (Mc U U) U U U (Jd (Jn U) U U U ?_)
  refine Kh (want := false) U U U U U U (fun hg40 => ?_) (fun hg40 => ?_)
  have hg40d := odf hg40
  refine Jd (Je (Jc JJ U)) U U U (Js U U U U hg40 (Jd (Je (Jq Tryz.isAgg3 U (Jm 0 U U))) U U U (Js U U U U hg40 (Jd (Je (Jf U)) U U U (Js U U U U hg40 (Jd (Je (Zj U U)) U U U (Jd (Jp U hg40 U) U U U (Ja ?_))))))))
  refine hN15 _ _ (Jb [(2,.pointer _),(45,.bool _)] ⟨U,U,O⟩ fun σ => ?_)
  refine Jt (b := _) U (fun hc45 => ?_) (fun hc45 => ?_)
  replace hc45 := odt hc45
  refine Jg fun N16 hN16 => Jk (Jd (Jh U) U U U (Ja (hN16 _ _ (Jb [(4,.int _ _)] ⟨U,O⟩ fun σ => ?_))))
  refine Ke fun w1 hM => ?_
  refine ⟨_,res1 rfl (rt (v := .int _ _) rfl),?_⟩
  exact ⟨by rw [hC,if_pos (by omega)],hM.low⟩
  replace hc45 := odf hc45
  refine Jw (hN14 _ _ (Jb [(2,.pointer _)] ⟨U,O⟩ fun σ => Jg fun N17 hN17 => Jg fun N18 hN18 => Jk (Jd (Kk (cs := [_,_,_]) Tryz.isAgg92 Tryz.sizeOf92 U U (Kf 0 U)) U U U ?_)))
  refine Km (Kb (vs := [.agg #[_,_,_]]) Tryz.func63 U (by kernel_rfl) U) (fun w hM => end_any w h (by unfold In64 Hunk.end_; omega)) U U U ?_
  refine Jd (Mh U U) U U U (Ja (hN18 _ _ (Jb [(48,.bool _)] ⟨U,O⟩ fun σ => ?_)))
  refine Jt (b := _) U (fun hc48 => ?_) (fun hc48 => ?_)
  replace hc48 := odt hc48
  refine Jg fun N19 hN19 => Jk (Jd (Jh U) U U U (Ja (hN19 _ _ (Jb [(4,.int _ _)] ⟨U,O⟩ fun σ => ?_))))
  refine Ke fun w1 hM => ?_
  refine ⟨_,res1 rfl (rt (v := .int _ _) rfl),?_⟩
  exact ⟨by rw [hC,if_neg (by omega),if_pos (by omega)],hM.low⟩
  replace hc48 := odf hc48
  refine Jw (hN17 _ _ (Jb [] trivial fun σ => Jg fun N20 hN20 => Jk (Jd (Jh U) U U U (Ja (hN20 _ _ (Jb [(4,.int _ _)] ⟨U,O⟩ fun σ => ?_))))))
  refine Ke fun w1 hM => ?_
  refine ⟨_,res1 rfl (rt (v := .int _ _) rfl),?_⟩
  exact ⟨by rw [hC,if_neg (by omega),if_neg (by omega)],hM.low⟩
  have hg40d := odt hg40
  refine Jj U U U U hg40 U U (Jj U U U U hg40 U U (Jj U U U U hg40 U U (Jd (Jo U hg40 U) U U U (Ja (hN15 _ _ (Jb [(2,.pointer _),(45,.bool _)] ⟨U,U,O⟩ fun σ => ?_))))))
  refine Jt (b := _) U (fun hc45 => ?_) (fun hc45 => ?_)
  refine Jg fun N21 hN21 => Jk (Jd (Jh U) U U U (Ja (hN21 _ _ (Jb [(4,.int _ _)] ⟨U,O⟩ fun σ => ?_))))
  refine Ke fun w1 hM => ?_
  refine ⟨_,res1 rfl (rt (v := .int _ _) rfl),?_⟩
  exact ⟨by rw [hC,if_pos (by omega)],hM.low⟩
  cases hc45
 have hg11d := odt hg11
 refine Jj U U U U hg11 U U (Jj U U U U hg11 U U (Jd (Jo U hg11 U) U U U (Ja (hN3 _ _ (Jb [(1,.int _ _),(2,.pointer _),(15,.bool _)] ⟨U,U,U,O⟩ fun σ => ?_)))))
 refine Jt (b := _) U (fun hc15 => ?_) (fun hc15 => ?_)
 refine Jg fun N22 hN22 => Jk (Jd (Jh U) U U U (Ja (hN22 _ _ (Jb [(4,.int _ _)] ⟨U,O⟩ fun σ => ?_))))
 refine Ke fun w1 hM => ?_
 refine ⟨_,res1 rfl (rt (v := .int _ _) rfl),?_⟩
 exact ⟨by rw [hunkC,if_pos (by omega)],hM.low⟩
 cases hc15
set_option maxHeartbeats 1000000 in
theorem Wq (w : World) (A : Option Addr) (c : Nat) (hs : List HunkC) (hp : PatR w 0 A c hs) : Calls Tryz.prog 62 #[.agg #[.slice A hs.length c]] w fun e w' => e = .returned (fv (patchF (pls hs))) ∧ Below w.heap.size w w' := by
 have hm := Nat.le_trans hp.sb.len hp.sb.max
 unfold maxLen at hm
 refine Kz Tryz.func62 U Tryz.ntmps62 (leb U) ?_
 refine Jb [(0,.agg #[_])] ⟨U,O⟩ fun σ => Jg fun N1 hN1 => Jk ?_
 refine Mt (v := .agg #[_]) (cs := #[_]) U U U (fun b1 hb1 => ?_)
 refine Ka (cs := #[.int .i64 0,.int .i64 0]) Tryz.zeroValue33 U U (fun b2 hb2 => ?_)
 refine Ja (hN1 _ _ (gT [box b1 _,box b2 _] U (Jb [(1,.pointer _),(2,.pointer _)] ⟨U,U,O⟩ fun σ => Jg fun N2 hN2 => Jg fun N3 hN3 => Jk (Jd (Jc Qg U) U U U (Jd (Jq Tryz.isAgg25 U (Jm 0 U U)) U U U (Jd (Ks Tryz.underlying25 U) U U U (Jd (Mh U U) U U U (Ja ?_))))))))
 refine hN3 _ _ (Jb [(1,.pointer _),(2,.pointer _),(10,.bool _)] ⟨U,U,U,O⟩ fun σ => ?_)
 refine Jt (b := _) U (fun hc10 => ?_) (fun hc10 => ?_)
 replace hc10 := odt hc10
 have hF : patchF (pls hs) = ⟨2,-1⟩ := by rw [patchF,if_pos (by simp; omega)]
 refine Jg fun N4 hN4 => Jk (Jd (Kd (vs := [(0,_),(1,_)]) (cells := #[_,_]) U (Ma _ _)) U U U (Jr 1 (v := .agg #[_,_]) (cs' := #[_,_]) U U Tryz.sizeOf33 U U U U (leb U) U U (Ja (hN4 _ _ (gT [box b1 _,box b2 _] U (Jb [(2,.pointer _)] ⟨U,O⟩ fun σ => ?_))))))
 refine Ke fun w1 hM => ?_
 refine ⟨_,res1 rfl (rc 1 (cs := [_,_]) hM rfl rfl Tryz.isAgg33 Tryz.sizeOf33 rfl),?_⟩
 exact ⟨by rw [hF],hM.low⟩
 replace hc10 := odf hc10
 have hF : patchF (pls hs) = scan (fun k h => hunkC h (prevEnd (pls hs) k)) (pls hs) := by rw [patchF,if_neg (by simp; omega)]
 refine Jw (hN2 _ _ (Jb [(1,.pointer _),(2,.pointer _)] ⟨U,U,O⟩ fun σ => Jg fun N5 hN5 => Jk (Jd (Jh U) U U U (Ja (hN5 _ _ (Jb [(1,.pointer _),(2,.pointer _),(3,.int _ _)] ⟨U,U,U,O⟩ fun σ => Jg fun N6 hN6 => Jg fun N7 hN7 => Jk (Jd (Jc Qg U) U U U (Jd (Jq Tryz.isAgg25 U (Jm 0 U U)) U U U ?_))))))))
 refine Jd (Ks Tryz.underlying25 U) U U U (Jd (Jf U) U U U (Ja (hN7 _ _ (Jb [(2,.pointer _),(3,.int _ _),(13,.slice _ _ _),(14,.int _ _),(15,.int _ _)] ⟨U,U,U,U,U,O⟩ fun σ => Kn ?_))))
 refine Mm [(3,.int _ _),(15,.int _ _)] [(2,.pointer _),(13,.slice _ _ _),(14,.int _ _)] ⟨U,U,O⟩ ⟨U,U,U,O⟩ fun σ => ?_
 refine Ml (G := Nat) (fun k => k ≤ hs.length ∧ ∀ j (h : j < (pls hs).length),j < k → hunkC (pls hs)[j] (prevEnd (pls hs) j) = 0) (fun k => hs.length - k) (fun k => [(3,.int .i64 (prevEnd (pls hs) k)),(15,.int .i64 (k : Int))]) (fun k => []) (0) ?h0 ⟨U,U,O⟩ ⟨U,U,U,O⟩ U ?round
 case h0 => exact ⟨Nat.zero_le _,fun _ _ h => absurd h (by omega)⟩
 case round =>
  intro k hφ σ
  obtain ⟨hk,hz⟩ := hφ
  refine Jg fun N8 hN8 => Jk (Jd (Me U U) U U U (Ja (hN8 _ _ (Jb [(2,.pointer _),(3,.int _ _),(13,.slice _ _ _),(14,.int _ _),(15,.int _ _),(16,.bool _)] ⟨U,U,U,U,U,U,O⟩ fun σ => Jg fun N9 hN9 => ?_))))
  refine Jt (b := _) U (fun hc16 => ?_) (fun hc16 => ?_)
  replace hc16 := odt hc16
  have hk1 : k < hs.length := by omega
  have hk2 : k < (pls hs).length := by simpa using hk1
  obtain ⟨ad,rfl,-,hcv⟩ := hp.rd.at_ hk1
  have hR := hp.each _ (List.getElem_mem hk1)
  refine Jw (hN9 _ _ (Jb [(2,.pointer _),(3,.int _ _),(13,.slice _ _ _),(14,.int _ _),(15,.int _ _)] ⟨U,U,U,U,U,O⟩ fun σ => Jg fun N10 hN10 => Kn (Jg fun N11 hN11 => Jk (Jd (Jf U) U U U (Jd (Jz Tryz.underlying25 Tryz.sizeOf92 U U U (by omega) (by omega)) U U U (Jd (Kk (cs := [_,_,_]) Tryz.isAgg92 Tryz.sizeOf92 U U (Mv hcv)) U U U ?_))))))
  refine Ka (cs := #[.int .i64 0,.slice none 0 0,.slice none 0 0]) Tryz.zeroValue92 U U (fun b5 hb5 => ?_)
  refine Jd (Jh U) U U U (Jr 2 (v := .agg #[_,_,_]) (cs' := #[_,_,_]) U U Tryz.sizeOf92 U U U U (leb U) U U (Ja (hN11 _ _ (gT [box b1 _,box b2 _,box b5 _] U (Jb [(2,.pointer _),(3,.int _ _),(4,.int _ _),(5,.pointer _),(13,.slice _ _ _),(14,.int _ _),(15,.int _ _)] ⟨U,U,U,U,U,U,U,O⟩ fun σ => Jg fun N12 hN12 => Jg fun N13 hN13 => Jk (Jd (Kk (cs := [_,_,_]) Tryz.isAgg92 Tryz.sizeOf92 U U (Kf 2 U)) U U U (Jd (Jf U) U U U ?_)))))))
  refine Km (Kb (vs := [.agg #[_,_,_],.int _ _]) Tryz.func96 U (by kernel_rfl) U) (fun w hM => hunk_any w hs[k] (HunkR.lasts.base hR hM) _) U U U ?_
  refine Jd (Jh U) U U U (Ja (hN13 _ _ (Jb [(2,.pointer _),(4,.int _ _),(5,.pointer _),(6,.int _ _),(13,.slice _ _ _),(14,.int _ _),(15,.int _ _)] ⟨U,U,U,U,U,U,U,O⟩ fun σ => Jg fun N14 hN14 => Jk (Jd (Jf U) U U U (Jd (Uj U U) U U U (Ja (hN14 _ _ (Jb [(2,.pointer _),(4,.int _ _),(5,.pointer _),(6,.int _ _),(13,.slice _ _ _),(14,.int _ _),(15,.int _ _),(24,.bool _)] ⟨U,U,U,U,U,U,U,U,O⟩ fun σ => ?_))))))))
  refine Jt (b := _) U (fun hc24 => ?_) (fun hc24 => ?_)
  replace hc24 := odt hc24
  refine Jg fun N15 hN15 => Jk (Jd (Jf U) U U U (Jd (Jf U) U U U (Jd (Kd (vs := [(0,.int _ _),(1,.int _ _)]) (cells := #[_,_]) U (Ma _ _)) U U U (Jr 1 (v := .agg #[_,_]) (cs' := #[_,_]) U U Tryz.sizeOf33 U U U U (leb U) U U (Ja (hN15 _ _ (gT [box b1 _,box b2 _,box b5 _] U (Jb [(2,.pointer _)] ⟨U,O⟩ fun σ => ?_))))))))
  refine Ke fun w1 hM => ?_
  refine ⟨_,res1 rfl (rc 1 (cs := [_,_]) hM rfl rfl Tryz.isAgg33 Tryz.sizeOf33 rfl),?_⟩
  exact ⟨by rw [hF,Uf hk2 hz (by simpa using hc24)]; simp,hM.low⟩
  replace hc24 := Decidable.not_not.1 (odf hc24)
  have hv := QY.1 hc24
  refine Jw (hN12 _ _ (Jb [(2,.pointer _),(5,.pointer _),(13,.slice _ _ _),(14,.int _ _),(15,.int _ _)] ⟨U,U,U,U,U,O⟩ fun σ => Jk (Jd (Kk (cs := [_,_,_]) Tryz.isAgg92 Tryz.sizeOf92 U U (Kf 2 U)) U U U ?_)))
  refine Km (Kb (vs := [.agg #[_,_,_]]) Tryz.func63 U (by kernel_rfl) U) (fun w hM => end_any w hs[k] (by have := hv.lo; have := hv.hi; have := hv.oldLen; unfold In64 Hunk.end_; omega)) U U U ?_
  refine Jd (Jh U) U U U (Ja (hN10 _ _ (Jb [(2,.pointer _),(3,.int _ _),(13,.slice _ _ _),(14,.int _ _),(15,.int _ _)] ⟨U,U,U,U,U,O⟩ fun σ => Jk (Jd (Kr U U ⟨by omega,by omega⟩) U U U (Jd (Jf U) U U U (Ja ?_))))))
  refine Kt (k + 1) (by omega) (⟨by omega,fun j h hj => by rcases Nat.lt_succ_iff_lt_or_eq.1 hj with h1 | rfl; exact hz j h h1; simpa using hc24⟩) ⟨(congrArg (Value.int .i64) (by rw [PV.prev hk2]; simp)),U,trivial⟩ ⟨U,U,U,O⟩ ⟨_,U⟩
  replace hc16 := odf hc16
  have hF2 : patchF (pls hs) = ⟨0,0⟩ := by rw [hF]; exact Qy fun j hj => hz j hj (by simp at hj; omega)
  refine Mx ?_
  refine hN6 _ _ (Jb [(2,.pointer _)] ⟨U,O⟩ fun σ => Jg fun N16 hN16 => Jk (Jd (Kd (vs := []) (cells := #[.int .i64 0,.int .i64 0]) U Qh) U U U (Jr 1 (v := .agg #[_,_]) (cs' := #[_,_]) U U Tryz.sizeOf33 U U U U (leb U) U U (Ja (hN16 _ _ (gT [box b1 _,box b2 _] U (Jb [(2,.pointer _)] ⟨U,O⟩ fun σ => ?_)))))))
  refine Ke fun w1 hM => ?_
  refine ⟨_,res1 rfl (rc 1 (cs := [_,_]) hM rfl rfl Tryz.isAgg33 Tryz.sizeOf33 rfl),?_⟩
  exact ⟨by rw [hF2],hM.low⟩
set_option maxHeartbeats 1000000 in
theorem patchSecond_any (w : World) (A : Option Addr) (c : Nat) (hs : List HunkC) (hp : PatR w 0 A c hs) (i : Int) : Calls Tryz.prog 32 #[.agg #[.slice A hs.length c], .int .i64 i] w fun e w' => e = .returned (fv (secondF (patchF (pls hs)) i)) ∧ Below w.heap.size w w' := by
 refine Kz Tryz.func32 U Tryz.ntmps32 (leb U) ?_
 refine Jb [(0,.agg #[_]),(1,.int _ _)] ⟨U,U,O⟩ fun σ => Jg fun N1 hN1 => Jk ?_
 refine Mt (v := .agg #[_]) (cs := #[_]) U U U (fun b2 hb2 => ?_)
 refine Ka (cs := #[.int .i64 0,.int .i64 0]) Tryz.zeroValue33 U U (fun b4 hb4 => ?_)
 refine Ja (hN1 _ _ (gT [box b2 _,box b4 _] U (Jb [(1,.int _ _),(2,.pointer _),(4,.pointer _)] ⟨U,U,U,O⟩ fun σ => Jg fun N2 hN2 => Jg fun N3 hN3 => Jk (Jd (Kk (cs := [_]) Tryz.isAgg27 Tryz.sizeOf27 U U (Kf 0 U)) U U U ?_))))
 refine Km (Kb (vs := [.agg #[_]]) Tryz.func62 U (by kernel_rfl) U) (fun w hM => Wq w _ _ _ (PatR.lasts.base hp hM)) U U U ?_
 refine Ka (cs := #[.int .i64 0,.int .i64 0]) Tryz.zeroValue33 U U (fun b5 hb5 => ?_)
 refine Jr 2 (v := .agg #[_,_]) (cs' := #[_,_]) U U Tryz.sizeOf33 U U U U (leb U) U U (Ja (hN3 _ _ (gT [box b2 _,box b4 _,box b5 _] U (Jb [(1,.int _ _),(4,.pointer _),(5,.pointer _)] ⟨U,U,U,O⟩ fun σ => Jg fun N4 hN4 => Jk (Jd (Kk (cs := [_,_]) Tryz.isAgg33 Tryz.sizeOf33 U U (Kf 2 U)) U U U (Jd (Kd (vs := []) (cells := #[.int .i64 0,.int .i64 0]) U Qh) U U U (Jd (Uk (vx := .agg #[_,_]) (vy := .agg #[_,_]) U U (fun w => eg33 _ _ _ _ _ w) (fun w => ne33 _ _ _ _ w)) U U U (Ja ?_))))))))
 refine hN4 _ _ (Jb [(1,.int _ _),(4,.pointer _),(5,.pointer _),(10,.bool _)] ⟨U,U,U,U,O⟩ fun σ => ?_)
 refine Jt (b := _) U (fun hc10 => ?_) (fun hc10 => ?_)
 replace hc10 := Qe.1 hc10
 refine Jg fun N5 hN5 => Jk (Jd (Jc Uo U) U U U (Jd (Jq Tryz.isAgg3 U (Jm 2 U U)) U U U (Jd (Jf U) U U U (Jd (Kd (vs := [(0,.int _ _),(1,.int _ _)]) (cells := #[_,_]) U (Ma _ _)) U U U (Jr 1 (v := .agg #[_,_]) (cs' := #[_,_]) U U Tryz.sizeOf33 U U U U (leb U) U U (Ja (hN5 _ _ (gT [box b2 _,box b4 _,box b5 _] U ?_))))))))
 refine Jb [(4,.pointer _)] ⟨U,O⟩ fun σ => ?_
 refine Ke fun w1 hM => ?_
 refine ⟨_,res1 rfl (rc 1 (cs := [_,_]) hM rfl rfl Tryz.isAgg33 Tryz.sizeOf33 rfl),?_⟩
 exact ⟨by rw [secondF,if_pos hc10],hM.low⟩
 replace hc10 := Qf.1 hc10
 refine Jw (hN2 _ _ (Jb [(4,.pointer _)] ⟨U,O⟩ fun σ => Jg fun N6 hN6 => Jk (Jd (Kd (vs := []) (cells := #[.int .i64 0,.int .i64 0]) U Qh) U U U (Jr 1 (v := .agg #[_,_]) (cs' := #[_,_]) U U Tryz.sizeOf33 U U U U (leb U) U U (Ja (hN6 _ _ (gT [box b2 _,box b4 _,box b5 _] U (Jb [(4,.pointer _)] ⟨U,O⟩ fun σ => ?_))))))))
 refine Ke fun w1 hM => ?_
 refine ⟨_,res1 rfl (rc 1 (cs := [_,_]) hM rfl rfl Tryz.isAgg33 Tryz.sizeOf33 rfl),?_⟩
 exact ⟨by rw [secondF,if_neg (by simp [hc10])],hM.low⟩
set_option maxHeartbeats 1000000 in
theorem isLine_any (w : World) (n : Int) : Calls Tryz.prog 31 #[.int .i64 n] w fun e w' => e = .returned (.bool (isLine n)) ∧ Below w.heap.size w w' := by
 refine Kz Tryz.func31 U Tryz.ntmps31 (leb U) ?_
 refine Jb [(0,.int _ _)] ⟨U,O⟩ fun σ => Jg fun N1 hN1 => Jk (Jd (Ji U) U U U (Ja (hN1 _ _ (Jb [(0,.int _ _)] ⟨U,O⟩ fun σ => Jg fun N2 hN2 => Jk (Jd (Jf U) U U U (Jd (Wj U U) U U U (Jd (Jn U) U U U ?_)))))))
 refine Kh (want := true) U U U U U U (fun hg5 => ?_) (fun hg5 => ?_)
 have hg5d := odt hg5
 refine Jd (Je (Jf U)) U U U (Js U U U U hg5 (Jd (Je (Me U U)) U U U (Jd (Jo U hg5 U) U U U (Jd (Ji U) U U U (Ja (hN2 _ _ (Jb [(2,.bool _)] ⟨U,O⟩ fun σ => ?_)))))))
 refine Ke fun w1 hM => ?_
 refine ⟨_,res1 rfl (rt (v := .bool _) rfl),?_⟩
 exact ⟨by simp [isLine,hg5d],hM.low⟩
 have hg5d := odf hg5
 refine Jj U U U U hg5 U U (Jd (Jp U hg5 U) U U U (Jd (Ji U) U U U (Ja (hN2 _ _ (Jb [(2,.bool _)] ⟨U,O⟩ fun σ => ?_)))))
 refine Ke fun w1 hM => ?_
 refine ⟨_,res1 rfl (rt (v := .bool _) rfl),?_⟩
 exact ⟨by simp [isLine,hg5d],hM.low⟩
set_option maxHeartbeats 1000000 in
theorem place_any (w : World) (A : Option Addr) (c : Nat) (hs : List HunkC) (hp : PatR w 0 A c hs) (hn : hs.length ≤ 130) (hb : ∀ h ∈ pls hs, HB h) (line : Int) (h1 : -1000000000000 ≤ line) (h2 : line ≤ 1000000000000) : Calls Tryz.prog 33 #[.agg #[.slice A hs.length c], .int .i64 line] w fun e w' => e = .returned (.tuple #[.int .i64 (place (pls hs) line 0).1, .bool (place (pls hs) line 0).2]) ∧ Below w.heap.size w w' := by
 refine Kz Tryz.func33 U Tryz.ntmps33 (leb U) ?_
 refine Jb [(0,.agg #[_]),(1,.int _ _)] ⟨U,U,O⟩ fun σ => Jg fun N1 hN1 => Jk ?_
 refine Mt (v := .agg #[_]) (cs := #[_]) U U U (fun b2 hb2 => ?_)
 refine Jd (Jh U) U U U (Jd (Ji U) U U U (Ja (hN1 _ _ (gT [box b2 _] U (Jb [(1,.int _ _),(2,.pointer _)] ⟨U,U,O⟩ fun σ => Jg fun N2 hN2 => Jk (Jd (Jh U) U U U (Ja (hN2 _ _ ?_))))))))
 refine Jb [(1,.int _ _),(2,.pointer _),(6,.int _ _)] ⟨U,U,U,O⟩ fun σ => Jg fun N3 hN3 => Jg fun N4 hN4 => Jk (Jd (Jc Qg U) U U U (Jd (Jq Tryz.isAgg25 U (Jm 0 U U)) U U U (Jd (Ks Tryz.underlying25 U) U U U (Jd (Jf U) U U U (Ja (hN4 _ _ (Jb [(1,.int _ _),(6,.int _ _),(10,.slice _ _ _),(11,.int _ _),(12,.int _ _)] ⟨U,U,U,U,U,O⟩ fun σ => Kn ?_)))))))
 refine Mm [(6,.int _ _),(12,.int _ _)] [(1,.int _ _),(10,.slice _ _ _),(11,.int _ _)] ⟨U,U,O⟩ ⟨U,U,U,O⟩ fun σ => ?_
 refine Ml (G := Nat × Int) (fun (k,g) => k ≤ hs.length ∧ -(120 * (k : Int)) ≤ g ∧ g ≤ 120 * (k : Int) ∧ place (pls hs) line 0 = place ((pls hs).drop k) line g) (fun (k,g) => hs.length - k) (fun (k,g) => [(6,.int .i64 g),(12,.int .i64 (k : Int))]) (fun (k,g) => []) ((0,0)) ?h0 ⟨U,U,O⟩ ⟨U,U,U,O⟩ U ?round
 case h0 => exact ⟨Nat.zero_le _,by decide,by decide,rfl⟩
 case round =>
  rintro ⟨k,g⟩ hφ σ
  obtain ⟨hk,hg1,hg2,hP⟩ := hφ
  refine Jg fun N5 hN5 => Jk (Jd (Me U U) U U U (Ja (hN5 _ _ (Jb [(1,.int _ _),(6,.int _ _),(10,.slice _ _ _),(11,.int _ _),(12,.int _ _),(13,.bool _)] ⟨U,U,U,U,U,U,O⟩ fun σ => Jg fun N6 hN6 => ?_))))
  refine Jt (b := _) U (fun hc13 => ?_) (fun hc13 => ?_)
  replace hc13 := odt hc13
  have hk1 : k < hs.length := by omega
  have hk2 : k < (pls hs).length := by simpa using hk1
  obtain ⟨ad,rfl,-,hcv⟩ := hp.rd.at_ hk1
  have hB : HB hs[k].pl := hb _ (List.mem_map_of_mem (List.getElem_mem hk1))
  have hB1 := hB.lo
  have hB2 := hB.hi
  have hB3 := hB.old
  have hB4 := hB.new
  have hgr : hs[k].pl.growth = hs[k].pl.new.length - hs[k].pl.old.length := rfl
  have hD := place_drop hk2 line g
  rw [show (pls hs)[k] = hs[k].pl from List.getElem_map ..] at hD
  refine Jw (hN6 _ _ (Jb [(1,.int _ _),(6,.int _ _),(10,.slice _ _ _),(11,.int _ _),(12,.int _ _)] ⟨U,U,U,U,U,O⟩ fun σ => Jg fun N7 hN7 => Kn (Jg fun N8 hN8 => Jk (Jd (Jz Tryz.underlying25 Tryz.sizeOf92 U U U (by omega) (by omega)) U U U (Jd (Kk (cs := [_,_,_]) Tryz.isAgg92 Tryz.sizeOf92 U U (Mv hcv)) U U U ?_)))))
  refine Ka (cs := #[.int .i64 0,.slice none 0 0,.slice none 0 0]) Tryz.zeroValue92 U U (fun b8 hb8 => ?_)
  refine Jr 1 (v := .agg #[_,_,_]) (cs' := #[_,_,_]) U U Tryz.sizeOf92 U U U U (leb U) U U (Ja (hN8 _ _ (gT [box b2 _,box b8 _] U (Jb [(1,.int _ _),(6,.int _ _),(8,.pointer _),(10,.slice _ _ _),(11,.int _ _),(12,.int _ _)] ⟨U,U,U,U,U,U,O⟩ fun σ => Jg fun N9 hN9 => Jg fun N10 hN10 => Jk (Jd (Jf U) U U U (Jd (Jc JJ U) U U U (Jd (Jq Tryz.isAgg3 U (Jm 1 U U)) U U U (Jd (Me U U) U U U ?_))))))))
  refine Ja (hN10 _ _ (Jb [(1,.int _ _),(6,.int _ _),(8,.pointer _),(10,.slice _ _ _),(11,.int _ _),(12,.int _ _),(19,.bool _)] ⟨U,U,U,U,U,U,U,O⟩ fun σ => ?_))
  refine Jt (b := _) U (fun hc19 => ?_) (fun hc19 => ?_)
  replace hc19 := odt hc19
  have hE : place (pls hs) line 0 = (line + g,true) := by rw [hP,hD,if_pos hc19]
  refine Mx ?_
  refine hN3 _ _ (Jb [(1,.int _ _),(6,.int _ _)] ⟨U,U,O⟩ fun σ => Jg fun N11 hN11 => Jk (Jd (Jf U) U U U (Jd (Jf U) U U U (Jd (Kr U U ⟨by omega,by omega⟩) U U U (Jd (Jh U) U U U (Jd (Ji U) U U U (Ja (hN11 _ _ ?_))))))))
  refine Jb [(4,.int _ _),(5,.bool _)] ⟨U,U,O⟩ fun σ => ?_
  refine Ke fun w1 hM => ?_
  refine ⟨_,res2 rfl (rt (v := .int _ _) rfl) (rt (v := .bool _) rfl),?_⟩
  exact ⟨by rw [hE],hM.low⟩
  replace hc19 := odf hc19
  refine Jw (hN9 _ _ (Jb [(1,.int _ _),(6,.int _ _),(8,.pointer _),(10,.slice _ _ _),(11,.int _ _),(12,.int _ _)] ⟨U,U,U,U,U,U,O⟩ fun σ => Jg fun N12 hN12 => Jg fun N13 hN13 => Jk (Jd (Jf U) U U U (Jd (Kk (cs := [_,_,_]) Tryz.isAgg92 Tryz.sizeOf92 U U (Kf 1 U)) U U U ?_))))
  refine Km (Kb (vs := [.agg #[_,_,_]]) Tryz.func63 U (by kernel_rfl) U) (fun w hM => end_any w hs[k] (by have := hB.lo; have := hB.hi; have := hB.old; unfold In64 Hunk.end_; omega)) U U U ?_
  refine Jd (Me U U) U U U (Ja (hN13 _ _ (Jb [(1,.int _ _),(6,.int _ _),(8,.pointer _),(10,.slice _ _ _),(11,.int _ _),(12,.int _ _),(23,.bool _)] ⟨U,U,U,U,U,U,U,O⟩ fun σ => ?_)))
  refine Jt (b := _) U (fun hc23 => ?_) (fun hc23 => ?_)
  replace hc23 := odt hc23
  have hE : place (pls hs) line 0 = (hs[k].pl.at_ + g,false) := by rw [hP,hD,if_neg hc19,if_pos hc23]
  refine Jg fun N14 hN14 => Jk (Jd (Jc JJ U) U U U (Jd (Jq Tryz.isAgg3 U (Jm 1 U U)) U U U (Jd (Jf U) U U U (Jd (Kr U U ⟨by omega,by omega⟩) U U U (Jd (Jh U) U U U (Jd (Ji U) U U U (Ja (hN14 _ _ ?_))))))))
  refine Jb [(4,.int _ _),(5,.bool _)] ⟨U,U,O⟩ fun σ => ?_
  refine Ke fun w1 hM => ?_
  refine ⟨_,res2 rfl (rt (v := .int _ _) rfl) (rt (v := .bool _) rfl),?_⟩
  exact ⟨by rw [hE],hM.low⟩
  replace hc23 := odf hc23
  refine Jw (hN12 _ _ (Jb [(1,.int _ _),(6,.int _ _),(8,.pointer _),(10,.slice _ _ _),(11,.int _ _),(12,.int _ _)] ⟨U,U,U,U,U,U,O⟩ fun σ => Jk (Jd (Jf U) U U U (Jd (Kk (cs := [_,_,_]) Tryz.isAgg92 Tryz.sizeOf92 U U (Kf 1 U)) U U U ?_))))
  refine Km (Kb (vs := [.agg #[_,_,_]]) Tryz.func64 U (by kernel_rfl) U) (fun w hM => growth_any w hs[k] (by have := hB.old; have := hB.new; unfold In64 Hunk.growth; omega)) U U U ?_
  refine Jd (Kr U U ⟨by omega,by omega⟩) U U U (Jd (Jh U) U U U (Ja (hN7 _ _ (Jb [(1,.int _ _),(6,.int _ _),(10,.slice _ _ _),(11,.int _ _),(12,.int _ _)] ⟨U,U,U,U,U,O⟩ fun σ => Jk (Jd (Kr U U ⟨by omega,by omega⟩) U U U (Jd (Jf U) U U U (Ja ?_)))))))
  refine Kt ((k + 1,g + hs[k].pl.growth)) (by show hs.length - (k + 1) < hs.length - k; omega) (⟨by show k + 1 ≤ _; omega,by show -(120 * ((k + 1 : Nat) : Int)) ≤ _; have := hB.old; have := hB.new; unfold Hunk.growth; omega,by show _ ≤ 120 * ((k + 1 : Nat) : Int); have := hB.old; have := hB.new; unfold Hunk.growth; omega,by rw [hP,hD,if_neg hc19,if_neg hc23]⟩) ⟨U,U,O⟩ ⟨U,U,U,O⟩ ⟨_,U⟩
  replace hc13 := odf hc13
  have hE : place (pls hs) line 0 = (line + g,true) := by rw [hP,List.drop_eq_nil_of_le (by simp; omega),place]
  refine Mx ?_
  refine hN3 _ _ (Jb [(1,.int _ _),(6,.int _ _)] ⟨U,U,O⟩ fun σ => Jg fun N15 hN15 => Jk (Jd (Jf U) U U U (Jd (Jf U) U U U (Jd (Kr U U ⟨by omega,by omega⟩) U U U (Jd (Jh U) U U U (Jd (Ji U) U U U (Ja (hN15 _ _ ?_))))))))
  refine Jb [(4,.int _ _),(5,.bool _)] ⟨U,U,O⟩ fun σ => ?_
  refine Ke fun w1 hM => ?_
  refine ⟨_,res2 rfl (rt (v := .int _ _) rfl) (rt (v := .bool _) rfl),?_⟩
  exact ⟨by rw [hE],hM.low⟩
set_option maxHeartbeats 1000000 in
theorem through_any (w : World) (A : Option Addr) (c : Nat) (ps : List PatC) (hp : PatsR w 0 A ps) (hm : ps.length ≤ maxLen) (line : Int) : Calls Tryz.prog 9 #[.slice A ps.length c, .int .i64 line] w fun e w' => e = .returned (.tuple #[.int .i64 (throughV (ps.map PatC.pl) line).1, .int .i64 ((throughV (ps.map PatC.pl) line).2 : Int), fv (throughF (ps.map PatC.pl) line)]) ∧ Below w.heap.size w w' := by
 unfold maxLen at hm
 refine Kz Tryz.func9 U Tryz.ntmps9 (leb U) ?_
 refine Jb [(0,.slice _ _ _),(1,.int _ _)] ⟨U,U,O⟩ fun σ => Jg fun N1 hN1 => Jk (Jd (Jh U) U U U (Jd (Jh U) U U U ?_))
 refine Ka (cs := #[.int .i64 0,.int .i64 0]) Tryz.zeroValue33 U U (fun b6 hb6 => ?_)
 refine Ja (hN1 _ _ (gT [box b6 _] U (Jb [(0,.slice _ _ _),(1,.int _ _),(6,.pointer _)] ⟨U,U,U,O⟩ fun σ => Jg fun N2 hN2 => Jg fun N3 hN3 => Jk (Jd (Kl U) U U U (Jd (Ks Tryz.underlying23 U) U U U (Jd (Mh U U) U U U (Ja (hN3 _ _ ?_))))))))
 refine Jb [(0,.slice _ _ _),(1,.int _ _),(6,.pointer _),(16,.bool _)] ⟨U,U,U,U,O⟩ fun σ => ?_
 refine Jt (b := _) U (fun hc16 => ?_) (fun hc16 => ?_)
 replace hc16 := odt hc16
 have hF : throughF (ps.map PatC.pl) line = ⟨2,-1⟩ := by rw [throughF,if_pos (by simp; omega)]
 have hV : throughV (ps.map PatC.pl) line = (0,0) := by rw [throughV,hF,if_neg (by decide)]
 refine Jg fun N4 hN4 => Jk (Jd (Kd (vs := [(0,_),(1,_)]) (cells := #[_,_]) U (Ma _ _)) U U U (Jd (Jh U) U U U (Jd (Jh U) U U U (Jr 0 (v := .agg #[_,_]) (cs' := #[_,_]) U U Tryz.sizeOf33 U U U U (leb U) U U (Ja (hN4 _ _ (gT [box b6 _] U (Jb [(4,.int _ _),(5,.int _ _),(6,.pointer _)] ⟨U,U,U,O⟩ fun σ => ?_))))))))
 refine Ke fun w1 hM => ?_
 refine ⟨_,res3 rfl (rt (v := .int _ _) rfl) (rt (v := .int _ _) rfl) (rc 0 (cs := [_,_]) hM rfl rfl Tryz.isAgg33 Tryz.sizeOf33 rfl),?_⟩
 exact ⟨by rw [hF,hV]; rfl,hM.low⟩
 replace hc16 := odf hc16
 refine Jw (hN2 _ _ (Jb [(0,.slice _ _ _),(1,.int _ _),(6,.pointer _)] ⟨U,U,U,O⟩ fun σ => Jg fun N5 hN5 => Jg fun N6 hN6 => Jk (Jd (Jf U) U U U ?_)))
 refine Km (Kb (vs := [.int _ _]) Tryz.func31 U (by kernel_rfl) U) (fun w hM => isLine_any w _) U U U ?_
 refine Jd (Mp U) U U U (Ja (hN6 _ _ (Jb [(0,.slice _ _ _),(1,.int _ _),(6,.pointer _),(20,.bool _)] ⟨U,U,U,U,O⟩ fun σ => ?_)))
 refine Jt (b := _) U (fun hc20 => ?_) (fun hc20 => ?_)
 replace hc20 := Ub hc20
 have hF : throughF (ps.map PatC.pl) line = ⟨3,-2⟩ := by rw [throughF,if_neg (by simp; omega),if_pos hc20]
 have hV : throughV (ps.map PatC.pl) line = (0,0) := by rw [throughV,hF,if_neg (by decide)]
 refine Jg fun N7 hN7 => Jk (Jd (Kd (vs := [(0,_),(1,_)]) (cells := #[_,_]) U (Ma _ _)) U U U (Jd (Jh U) U U U (Jd (Jh U) U U U (Jr 0 (v := .agg #[_,_]) (cs' := #[_,_]) U U Tryz.sizeOf33 U U U U (leb U) U U (Ja (hN7 _ _ (gT [box b6 _] U (Jb [(4,.int _ _),(5,.int _ _),(6,.pointer _)] ⟨U,U,U,O⟩ fun σ => ?_))))))))
 refine Ke fun w1 hM => ?_
 refine ⟨_,res3 rfl (rt (v := .int _ _) rfl) (rt (v := .int _ _) rfl) (rc 0 (cs := [_,_]) hM rfl rfl Tryz.isAgg33 Tryz.sizeOf33 rfl),?_⟩
 exact ⟨by rw [hF,hV]; rfl,hM.low⟩
 replace hc20 := Ue hc20
 have hln := isLine_t hc20
 have hF0 : throughF (ps.map PatC.pl) line = scan (fun _ p => (patchF p).code) (ps.map PatC.pl) := by rw [throughF,if_neg (by simp; omega),if_neg (by simp [hc20])]
 refine Jw (hN5 _ _ (Jb [(0,.slice _ _ _),(1,.int _ _),(6,.pointer _)] ⟨U,U,U,O⟩ fun σ => Jg fun N8 hN8 => Jg fun N9 hN9 => Jk (Jd (Kl U) U U U (Jd (Ks Tryz.underlying23 U) U U U (Jd (Jf U) U U U (Ja (hN9 _ _ (Jb [(0,.slice _ _ _),(1,.int _ _),(6,.pointer _),(22,.slice _ _ _),(23,.int _ _),(24,.int _ _)] ⟨U,U,U,U,U,U,O⟩ fun σ => ?_))))))))
 refine Kn ?_
 refine Mm [(24,.int _ _)] [(0,.slice _ _ _),(1,.int _ _),(6,.pointer _),(22,.slice _ _ _),(23,.int _ _)] ⟨U,O⟩ ⟨U,U,U,U,U,O⟩ fun σ => ?_
 refine Ml (G := Nat) (fun k => k ≤ ps.length ∧ ∀ j (h : j < (ps.map PatC.pl).length),j < k → (patchF (ps.map PatC.pl)[j]).code = 0) (fun k => ps.length - k) (fun k => [(24,.int .i64 (k : Int))]) (fun k => []) (0) ?h0 ⟨U,O⟩ ⟨U,U,U,U,U,O⟩ U ?round
 case h0 => exact ⟨Nat.zero_le _,fun _ _ h => absurd h (by omega)⟩
 case round =>
  intro k hφ σ
  obtain ⟨hk,hz⟩ := hφ
  refine Jg fun N10 hN10 => Jk (Jd (Me U U) U U U (Ja (hN10 _ _ (Jb [(0,.slice _ _ _),(1,.int _ _),(6,.pointer _),(22,.slice _ _ _),(23,.int _ _),(24,.int _ _),(25,.bool _)] ⟨U,U,U,U,U,U,U,O⟩ fun σ => Jg fun N11 hN11 => ?_))))
  refine Jt (b := _) U (fun hc25 => ?_) (fun hc25 => ?_)
  replace hc25 := odt hc25
  have hk1 : k < ps.length := by omega
  have hk2 : k < (ps.map PatC.pl).length := by simpa using hk1
  obtain ⟨ad,rfl,-,hcv⟩ := hp.rd.at_ hk1
  have hpk := hp.each _ (List.getElem_mem hk1)
  refine Jw (hN11 _ _ (Jb [(0,.slice _ _ _),(1,.int _ _),(6,.pointer _),(22,.slice _ _ _),(23,.int _ _),(24,.int _ _)] ⟨U,U,U,U,U,U,O⟩ fun σ => Jg fun N12 hN12 => Kn (Jg fun N13 hN13 => Jk (Jd (Jf U) U U U (Jd (Jz Tryz.underlying23 Tryz.sizeOf27 U U U (by omega) (by omega)) U U U (Jd (Kk (cs := [_]) Tryz.isAgg27 Tryz.sizeOf27 U U (Mv hcv)) U U U ?_))))))
  refine Ka (cs := #[.slice none 0 0]) Tryz.zeroValue27 U U (fun b8 hb8 => ?_)
  refine Jd (Jh U) U U U (Jr 1 (v := .agg #[_]) (cs' := #[_]) U U Tryz.sizeOf27 U U U U (leb U) U U (Ja (hN13 _ _ (gT [box b6 _,box b8 _] U (Jb [(0,.slice _ _ _),(1,.int _ _),(6,.pointer _),(7,.int _ _),(8,.pointer _),(22,.slice _ _ _),(23,.int _ _),(24,.int _ _)] ⟨U,U,U,U,U,U,U,U,O⟩ fun σ => Jg fun N14 hN14 => Jk (Jd (Kk (cs := [_]) Tryz.isAgg27 Tryz.sizeOf27 U U (Kf 1 U)) U U U (Jd (Jf U) U U U ?_)))))))
  refine Km (Kb (vs := [.agg #[_],.int _ _]) Tryz.func32 U (by kernel_rfl) U) (fun w hM => patchSecond_any w _ _ _ (PatR.lasts.base hpk hM) _) U U U ?_
  refine Ka (cs := #[.int .i64 0,.int .i64 0]) Tryz.zeroValue33 U U (fun b9 hb9 => ?_)
  refine Jr 2 (v := .agg #[_,_]) (cs' := #[_,_]) U U Tryz.sizeOf33 U U U U (leb U) U U (Ja (hN14 _ _ (gT [box b6 _,box b8 _,box b9 _] U (Jb [(0,.slice _ _ _),(1,.int _ _),(6,.pointer _),(9,.pointer _),(22,.slice _ _ _),(23,.int _ _),(24,.int _ _)] ⟨U,U,U,U,U,U,U,O⟩ fun σ => Jg fun N15 hN15 => Jk (Jd (Kk (cs := [_,_]) Tryz.isAgg33 Tryz.sizeOf33 U U (Kf 2 U)) U U U (Jd (Kd (vs := []) (cells := #[.int .i64 0,.int .i64 0]) U Qh) U U U (Jd (Uk (vx := .agg #[_,_]) (vy := .agg #[_,_]) U U (fun w => eg33 _ _ _ _ _ w) (fun w => ne33 _ _ _ _ w)) U U U (Ja ?_))))))))
  refine hN15 _ _ (Jb [(0,.slice _ _ _),(1,.int _ _),(6,.pointer _),(9,.pointer _),(22,.slice _ _ _),(23,.int _ _),(24,.int _ _),(34,.bool _)] ⟨U,U,U,U,U,U,U,U,O⟩ fun σ => ?_)
  refine Jt (b := _) U (fun hc34 => ?_) (fun hc34 => ?_)
  replace hc34 := Qe.1 hc34
  obtain ⟨hne,hsf⟩ := second_ne hc34
  have hF : throughF (ps.map PatC.pl) line = secondF (patchF ps[k].pl) k := by rw [hF0,Uf hk2 hz (by simpa using hne),hsf]; simp
  have hV : throughV (ps.map PatC.pl) line = (0,0) := by rw [throughV,hF,if_neg hc34]
  refine Jg fun N16 hN16 => ?_
  refine Qr [] [(0,room b6 33 2)] (by kernel_rfl) ?_
  refine Jv 0 (TK := [room b6 33 2,box b8 _,box b9 _]) U (by kernel_rfl) (by kernel_rfl) (by kernel_rfl) #[false,true,true,false] (by kernel_rfl) U (Kk (cs := [_,_]) Tryz.isAgg33 Tryz.sizeOf33 U U (Kf 2 U)) U U U (Kj 0 U U) (listed' := #[true,false,false,false]) U ?_
  refine Jv 1 (TK := [room b6 33 2,box b8 _,box b9 _]) U (by kernel_rfl) (by kernel_rfl) (by kernel_rfl) #[true,false,false,false] (by kernel_rfl) U (Jh U) U U U (Kj 0 U U) (listed' := #[true,true,false,false]) U ?_
  refine Jv 2 (TK := [room b6 33 2,box b8 _,box b9 _]) U (by kernel_rfl) (by kernel_rfl) (by kernel_rfl) #[true,true,false,false] (by kernel_rfl) U (Jh U) U U U (Kj 0 U U) (listed' := #[true,true,true,false]) U ?_
  refine Mr 3 (k' := 0) (listed' := #[true,true,true,true]) (by kernel_rfl) U U U ?_
  refine Jr 0 (v := .agg #[_,_]) (cs' := #[_,_]) U U Tryz.sizeOf33 U U U U (leb U) U U (Ja ?_)
  refine Mo (TK := [room b6 33 2,box b8 _,box b9 _]) U (Kj 0 U U) ?_
  refine Qd (by kernel_rfl) ?_
  refine hN16 _ _ (gT [box b6 _,box b8 _,box b9 _] U (Jb [(4,.int _ _),(5,.int _ _),(6,.pointer _)] ⟨U,U,U,O⟩ fun σ => ?_))
  refine Ke fun w1 hM => ?_
  refine ⟨_,res3 rfl (rt (v := .int _ _) rfl) (rt (v := .int _ _) rfl) (rc 0 (cs := [_,_]) hM rfl rfl Tryz.isAgg33 Tryz.sizeOf33 rfl),?_⟩
  exact ⟨by rw [hF,hV]; rfl,hM.low⟩
  replace hc34 := Qf.1 hc34
  replace hc34 := second_eq hc34
  refine Jw (hN12 _ _ (Jb [(0,.slice _ _ _),(1,.int _ _),(6,.pointer _),(22,.slice _ _ _),(23,.int _ _),(24,.int _ _)] ⟨U,U,U,U,U,U,O⟩ fun σ => Jk (Jd (Kr U U ⟨by omega,by omega⟩) U U U (Jd (Jf U) U U U (Ja ?_)))))
  refine Kt (k + 1) (by omega) (⟨by omega,fun j h hj => by rcases Nat.lt_succ_iff_lt_or_eq.1 hj with h1 | rfl; exact hz j h h1; rw [List.getElem_map,hc34]⟩) ⟨U,O⟩ ⟨U,U,U,U,U,O⟩ ⟨_,U⟩
  replace hc25 := odf hc25
  have hz2 : ∀ j (h : j < (ps.map PatC.pl).length),patchF (ps.map PatC.pl)[j] = ⟨0,0⟩ := fun j hj => Xu (hz j hj (by simp at hj; omega))
  have hF : throughF (ps.map PatC.pl) line = ⟨0,0⟩ := by rw [hF0]; exact Qy fun j hj => by rw [hz2 j hj]
  have hV : throughV (ps.map PatC.pl) line = through (ps.map PatC.pl) line := by rw [throughV,if_pos hF]
  refine Mx ?_
  refine hN8 _ _ (Jb [(0,.slice _ _ _),(1,.int _ _),(6,.pointer _)] ⟨U,U,U,O⟩ fun σ => Jg fun N17 hN17 => Jg fun N18 hN18 => Jk (Jd (Kl U) U U U (Jd (Ks Tryz.underlying23 U) U U U (Jd (Jf U) U U U (Ja (hN18 _ _ (Jb [(0,.slice _ _ _),(1,.int _ _),(6,.pointer _),(37,.slice _ _ _),(38,.int _ _),(39,.int _ _)] ⟨U,U,U,U,U,U,O⟩ fun σ => Kn ?_)))))))
  refine Mm [(1,.int _ _),(39,.int _ _)] [(0,.slice _ _ _),(6,.pointer _),(37,.slice _ _ _),(38,.int _ _)] ⟨U,U,O⟩ ⟨U,U,U,U,O⟩ fun σ => ?_
  refine Ml (G := Nat × Int) (fun (k,ln) => k ≤ ps.length ∧ -(16000 * (k : Int)) ≤ ln ∧ ln ≤ 120 + 16000 * (k : Int) ∧ through (ps.map PatC.pl) line = ((through ((ps.map PatC.pl).drop k) ln).1,(through ((ps.map PatC.pl).drop k) ln).2 + k)) (fun (k,ln) => ps.length - k) (fun (k,ln) => [(1,.int .i64 ln),(39,.int .i64 (k : Int))]) (fun (k,ln) => []) ((0,line)) ?h0 ⟨U,U,O⟩ ⟨U,U,U,U,O⟩ U ?round
  case h0 => exact ⟨Nat.zero_le _,by show -(16000 * ((0 : Nat) : Int)) ≤ line; omega,by show line ≤ 120 + 16000 * ((0 : Nat) : Int); omega,rfl⟩
  case round =>
   rintro ⟨k,ln⟩ hφ σ
   obtain ⟨hk,hl1,hl2,hP⟩ := hφ
   refine Jg fun N19 hN19 => Jk (Jd (Me U U) U U U (Ja (hN19 _ _ (Jb [(0,.slice _ _ _),(1,.int _ _),(6,.pointer _),(37,.slice _ _ _),(38,.int _ _),(39,.int _ _),(40,.bool _)] ⟨U,U,U,U,U,U,U,O⟩ fun σ => Jg fun N20 hN20 => ?_))))
   refine Jt (b := _) U (fun hc40 => ?_) (fun hc40 => ?_)
   replace hc40 := odt hc40
   have hk1 : k < ps.length := by omega
   have hk2 : k < (ps.map PatC.pl).length := by simpa using hk1
   obtain ⟨ad,rfl,-,hcv⟩ := hp.rd.at_ hk1
   have hpk := hp.each _ (List.getElem_mem hk1)
   have hv : PV ps[k].pl := by have := hz2 k hk2; rw [List.getElem_map] at this; exact patchF_ok.1 this
   have hD := through_drop hk2 ln
   rw [List.getElem_map] at hD
   have hvl : ps[k].hs.length ≤ 130 := by simpa using hv.len
   refine Jw (hN20 _ _ (Jb [(0,.slice _ _ _),(1,.int _ _),(6,.pointer _),(37,.slice _ _ _),(38,.int _ _),(39,.int _ _)] ⟨U,U,U,U,U,U,O⟩ fun σ => Jg fun N21 hN21 => Kn (Jg fun N22 hN22 => Jk (Jd (Jf U) U U U (Jd (Jz Tryz.underlying23 Tryz.sizeOf27 U U U (by omega) (by omega)) U U U (Jd (Kk (cs := [_]) Tryz.isAgg27 Tryz.sizeOf27 U U (Mv hcv)) U U U ?_))))))
   refine Ka (cs := #[.slice none 0 0]) Tryz.zeroValue27 U U (fun b11 hb11 => ?_)
   refine Jd (Jh U) U U U (Jr 1 (v := .agg #[_]) (cs' := #[_]) U U Tryz.sizeOf27 U U U U (leb U) U U (Ja (hN22 _ _ (gT [box b6 _,box b11 _] U (Jb [(0,.slice _ _ _),(1,.int _ _),(6,.pointer _),(10,.int _ _),(11,.pointer _),(37,.slice _ _ _),(38,.int _ _),(39,.int _ _)] ⟨U,U,U,U,U,U,U,U,O⟩ fun σ => Jg fun N23 hN23 => Jk (Jd (Kk (cs := [_]) Tryz.isAgg27 Tryz.sizeOf27 U U (Kf 1 U)) U U U (Jd (Jf U) U U U ?_)))))))
   refine Km (Kb (vs := [.agg #[_],.int _ _]) Tryz.func33 U (by kernel_rfl) U) (fun w hM => place_any w _ _ ps[k].hs (PatR.lasts.base hpk hM) (by simpa using hv.len) hv.each ln (by omega) (by omega)) U U U ?_
   refine Jd (Ju (v := .tuple #[.int _ _,.bool _]) U) U U U (Jd (Mg U U) U U U (Jd (Mi U U) U U U (Jd (Jh U) U U U (Jd (Ji U) U U U (Ja (hN23 _ _ (Jb [(0,.slice _ _ _),(1,.int _ _),(6,.pointer _),(10,.int _ _),(12,.int _ _),(13,.bool _),(37,.slice _ _ _),(38,.int _ _),(39,.int _ _)] ⟨U,U,U,U,U,U,U,U,U,O⟩ fun σ => Jg fun N24 hN24 => Jg fun N25 hN25 => Jk (Jd (Jn U) U U U ?_))))))))
   refine Jd (Mp U) U U U (Ja (hN25 _ _ (Jb [(0,.slice _ _ _),(1,.int _ _),(6,.pointer _),(10,.int _ _),(12,.int _ _),(37,.slice _ _ _),(38,.int _ _),(39,.int _ _),(51,.bool _)] ⟨U,U,U,U,U,U,U,U,U,O⟩ fun σ => ?_)))
   refine Jt (b := _) U (fun hc51 => ?_) (fun hc51 => ?_)
   replace hc51 := Ub hc51
   have hE : through (ps.map PatC.pl) line = (ln,k) := by rw [hP,hD,if_neg (by simp [hc51])]; simp
   refine Jg fun N26 hN26 => Jk (Jd (Jf U) U U U (Jd (Jf U) U U U (Jd (Kd (vs := []) (cells := #[.int .i64 0,.int .i64 0]) U Qh) U U U (Jd (Jh U) U U U (Jd (Jh U) U U U (Jr 0 (v := .agg #[_,_]) (cs' := #[_,_]) U U Tryz.sizeOf33 U U U U (leb U) U U (Ja (hN26 _ _ ?_))))))))
   refine gT [box b6 _,box b11 _] U (Jb [(4,.int _ _),(5,.int _ _),(6,.pointer _)] ⟨U,U,U,O⟩ fun σ => ?_)
   refine Ke fun w1 hM => ?_
   refine ⟨_,res3 rfl (rt (v := .int _ _) rfl) (rt (v := .int _ _) rfl) (rc 0 (cs := [_,_]) hM rfl rfl Tryz.isAgg33 Tryz.sizeOf33 rfl),?_⟩
   exact ⟨by rw [hF,hV,hE],hM.low⟩
   replace hc51 := Ue hc51
   have hbd := place_bd ps[k].pl ln 0 hv.each hc51
   have hbl : ps[k].pl.length = ps[k].hs.length := List.length_map ..
   refine Jw (hN24 _ _ (Jb [(0,.slice _ _ _),(6,.pointer _),(12,.int _ _),(37,.slice _ _ _),(38,.int _ _),(39,.int _ _)] ⟨U,U,U,U,U,U,O⟩ fun σ => Jk (Jd (Jf U) U U U (Jd (Jh U) U U U (Ja (hN21 _ _ (Jb [(0,.slice _ _ _),(1,.int _ _),(6,.pointer _),(37,.slice _ _ _),(38,.int _ _),(39,.int _ _)] ⟨U,U,U,U,U,U,O⟩ fun σ => Jk (Jd (Kr U U ⟨by omega,by omega⟩) U U U ?_))))))))
   refine Jd (Jf U) U U U (Ja ?_)
   refine Kt ((k + 1,(place ps[k].pl ln 0).1)) (by show ps.length - (k + 1) < ps.length - k; omega) (⟨by show k + 1 ≤ _; omega,by show -(16000 * ((k + 1 : Nat) : Int)) ≤ _; omega,by show _ ≤ 120 + 16000 * ((k + 1 : Nat) : Int); omega,by rw [hP,hD,if_pos hc51]; simp only [Nat.add_assoc,Nat.add_comm 1 k]⟩) ⟨U,U,O⟩ ⟨U,U,U,U,O⟩ ⟨_,U⟩
   replace hc40 := odf hc40
   have hE : through (ps.map PatC.pl) line = (ln,ps.length) := by rw [hP,List.drop_eq_nil_of_le (by simp; omega),through]; simp; omega
   refine Mx ?_
   refine hN17 _ _ (Jb [(0,.slice _ _ _),(1,.int _ _),(6,.pointer _)] ⟨U,U,U,O⟩ fun σ => Jg fun N27 hN27 => Jk (Jd (Jf U) U U U (Jd (Kl U) U U U (Jd (Ks Tryz.underlying23 U) U U U (Jd (Kd (vs := []) (cells := #[.int .i64 0,.int .i64 0]) U Qh) U U U (Jd (Jh U) U U U (Jd (Jh U) U U U (Jr 0 (v := .agg #[_,_]) (cs' := #[_,_]) U U Tryz.sizeOf33 U U U U (leb U) U U ?_))))))))
   refine Ja (hN27 _ _ (gT [box b6 _] U (Jb [(4,.int _ _),(5,.int _ _),(6,.pointer _)] ⟨U,U,U,O⟩ fun σ => ?_)))
   refine Ke fun w1 hM => ?_
   refine ⟨_,res3 rfl (rt (v := .int _ _) rfl) (rt (v := .int _ _) rfl) (rc 0 (cs := [_,_]) hM rfl rfl Tryz.isAgg33 Tryz.sizeOf33 rfl),?_⟩
   exact ⟨by rw [hF,hV,hE],hM.low⟩
end Go.Proofs.YtbkameioedmlkaaGreatDoor
namespace Go.Proofs.YtbkameioedmlkaaGreatDoor
open Go.RowKit Go.Cf
set_option maxRecDepth 10000
theorem fa70_0 (a : Addr) (w : World) : (Instr.fieldAt 70 (.pointer (some a)) 0).run Tryz.prog w = .ok (.pointer (some (a.add 0))) w := by kernel_rfl
theorem UU (a : Addr) (w : World) : (Instr.fieldAt 70 (.pointer (some a)) 2).run Tryz.prog w = .ok (.pointer (some (a.add 2))) w := by kernel_rfl
theorem fa70_1 (a : Addr) (w : World) : (Instr.fieldAt 70 (.pointer (some a)) 1).run Tryz.prog w = .ok (.pointer (some (a.add 1))) w := by kernel_rfl
theorem el4 : Elem Tryz.prog 4 1 1 := Xz (z := .bool false) (by kernel_rfl) rfl (by decide)
set_option maxHeartbeats 4000000 in
theorem apprValidate_any (w : World) (LA : Option Addr) (lc : Nat) (l : List Appr) (hl : Rdl w 0 3 apprCells LA l) (hll : l.length ≤ lc) (hlm : lc ≤ maxLen) : Calls Tryz.prog 16 #[.slice LA l.length lc] w fun e w' => e = .returned (fv (apprF l)) ∧ Below w.heap.size w w' := by
 have hdm : dMod = 2305843009213693951 := rfl
 have hmx : maxLen = 9223372036854775807 := rfl
 refine Kz Tryz.func16 U Tryz.ntmps16 (leb U) ?_
 refine Jb [(0,.slice _ _ _)] ⟨U,O⟩ fun σ => Jg fun N1 hN1 => Jk ?_
 refine Ka (cs := #[.int .i64 0,.int .i64 0]) Tryz.zeroValue33 U U (fun b2 hb2 => ?_)
 refine Ja (hN1 _ _ (gT [box b2 _] U (Jb [(0,.slice _ _ _),(2,.pointer _)] ⟨U,U,O⟩ fun σ => Jg fun N2 hN2 => Jg fun N3 hN3 => Jk (Jd (Kl U) U U U (Jd (Ks Tryz.underlying58 U) U U U (Jd (Mh U U) U U U (Ja (hN3 _ _ ?_))))))))
 refine Jb [(0,.slice _ _ _),(2,.pointer _),(7,.bool _)] ⟨U,U,U,O⟩ fun σ => ?_
 refine Jt (b := _) U (fun hc7 => ?_) (fun hc7 => ?_)
 replace hc7 := odt hc7
 have hF : apprF l = ⟨2,-1⟩ := by rw [apprF,if_pos (by omega)]
 refine Jg fun N4 hN4 => Jk (Jd (Kd (vs := [(0,_),(1,_)]) (cells := #[_,_]) U (Ma _ _)) U U U (Jr 0 (v := .agg #[_,_]) (cs' := #[_,_]) U U Tryz.sizeOf33 U U U U (leb U) U U (Ja (hN4 _ _ (gT [box b2 _] U (Jb [(2,.pointer _)] ⟨U,O⟩ fun σ => ?_))))))
 refine Ke fun w1 hM => ?_
 refine ⟨_,res1 rfl (rc 0 (cs := [_,_]) hM rfl rfl Tryz.isAgg33 Tryz.sizeOf33 rfl),?_⟩
 exact ⟨by rw [hF],hM.low⟩
 replace hc7 := odf hc7
 have hF : apprF l = scan (fun _ a => apprCode a) l := by rw [apprF,if_neg (by omega)]
 refine Jw (hN2 _ _ (Jb [(0,.slice _ _ _),(2,.pointer _)] ⟨U,U,O⟩ fun σ => Jg fun N5 hN5 => Jg fun N6 hN6 => Jk (Jd (Kl U) U U U (Jd (Ks Tryz.underlying58 U) U U U (Jd (Jf U) U U U (Ja (hN6 _ _ (Jb [(2,.pointer _),(9,.slice _ _ _),(10,.int _ _),(11,.int _ _)] ⟨U,U,U,U,O⟩ fun σ => ?_))))))))
 refine Kn ?_
 refine Mm [(11,.int _ _)] [(2,.pointer _),(9,.slice _ _ _),(10,.int _ _)] ⟨U,O⟩ ⟨U,U,U,O⟩ fun σ => ?_
 refine Ml (G := Nat) (fun k => k ≤ l.length ∧ ∀ j (h : j < l.length),j < k → apprCode l[j] = 0) (fun k => l.length - k) (fun k => [(11,.int .i64 (k : Int))]) (fun k => []) (0) ?h0 ⟨U,O⟩ ⟨U,U,U,O⟩ U ?round
 case h0 => exact ⟨Nat.zero_le _,fun _ _ h => absurd h (Nat.not_lt_zero _)⟩
 case round =>
  intro k hφ σ
  obtain ⟨hk,hz⟩ := hφ
  refine Jg fun N7 hN7 => Jk (Jd (Me U U) U U U (Ja (hN7 _ _ (Jb [(2,.pointer _),(9,.slice _ _ _),(10,.int _ _),(11,.int _ _),(12,.bool _)] ⟨U,U,U,U,U,O⟩ fun σ => Jg fun N8 hN8 => ?_))))
  refine Jt (b := _) U (fun hc12 => ?_) (fun hc12 => ?_)
  replace hc12 := odt hc12
  have hk1 : k < l.length := by omega
  obtain ⟨ad,rfl,-,hca⟩ := hl.at_ hk1
  have huc : (decide (0 ≤ l[k].user) && decide (l[k].user ≤ 7)) = decide (0 ≤ l[k].user ∧ l[k].user ≤ 7) := (Bool.decide_and _ _).symm
  refine Jw (hN8 _ _ (Jb [(2,.pointer _),(9,.slice _ _ _),(10,.int _ _),(11,.int _ _)] ⟨U,U,U,U,O⟩ fun σ => Jg fun N9 hN9 => Kn (Jg fun N10 hN10 => Jk (Jd (Jf U) U U U (Jd (Jz (m := k) Tryz.underlying58 Tryz.sizeOf70 U U (by omega) (by omega) (by omega)) U U U (Jd (Kk (cs := [_,_,_]) Tryz.isAgg70 Tryz.sizeOf70 U U (Mv hca)) U U U ?_))))))
  refine Ka (cs := #[.int .i64 0,.string .empty,.int .i64 0]) Tryz.zeroValue70 U U (fun b4 hb4 => ?_)
  refine Jd (Jh U) U U U (Jr 1 (v := .agg #[_,_,_]) (cs' := #[_,_,_]) U U Tryz.sizeOf70 U U U U (leb U) U U (Ja (hN10 _ _ (gT [box b2 _,box b4 _] U (Jb [(2,.pointer _),(3,.int _ _),(4,.pointer _),(9,.slice _ _ _),(10,.int _ _),(11,.int _ _)] ⟨U,U,U,U,U,U,O⟩ fun σ => Jg fun N11 hN11 => Jg fun N12 hN12 => Jk (Jd (Jc fa70_0 U) U U U (Jd (Jq Tryz.isAgg3 U (Jm 1 U U)) U U U ?_)))))))
  refine Km (Kb (vs := [.int _ _]) Tryz.func43 U (by kernel_rfl) U) (fun w hM => isUser_any w l[k].user) U U U ?_
  refine Jd (Mp U) U U U (Jd (Jn U) U U U ?_)
  refine Kh (want := false) U U U U U U (fun hg20 => ?_) (fun hg20 => ?_)
  have hg20d := Ue hg20
  have hu : (decide (0 ≤ l[k].user) && decide (l[k].user ≤ 7)) = true := by simpa using hg20d
  refine Jd (Je (Jc UU U)) U U U (Js U U U U hg20 (Jd (Je (Jq Tryz.isAgg3 U (Jm 1 U U))) U U U (Js U U U U hg20 (Jd (Je (Me U U)) U U U (Jd (Jp U hg20 U) U U U (Jd (Jn U) U U U ?_))))))
  refine Kh (want := false) U U U U U U (fun hg25 => ?_) (fun hg25 => ?_)
  have hg25d := odf hg25
  refine Jd (Je (Jc UU U)) U U U (Js U U U U hg25 (Jd (Je (Jq Tryz.isAgg3 U (Jm 1 U U))) U U U (Js U U U U hg25 (Jd (Je (Wj U U)) U U U (Jd (Jp U hg25 U) U U U (Ja (hN12 _ _ (Jb [(2,.pointer _),(3,.int _ _),(4,.pointer _),(9,.slice _ _ _),(10,.int _ _),(11,.int _ _),(29,.bool _)] ⟨U,U,U,U,U,U,U,O⟩ fun σ => ?_))))))))
  refine Jt (b := _) U (fun hc29 => ?_) (fun hc29 => ?_)
  replace hc29 := odt hc29
  have hC : apprCode l[k] = 3 := by rw [apprCode,if_pos (appr_bad (by first | exact .inl hu | exact .inr (.inl (by omega)) | exact .inr (.inr (by rw [hdm]; first | exact hc29 | exact odt hc29))))]
  refine Jg fun N13 hN13 => Jk (Jd (Jf U) U U U (Jd (Kd (vs := [(0,_),(1,.int _ _)]) (cells := #[_,_]) U (Ma _ _)) U U U (Jr 0 (v := .agg #[_,_]) (cs' := #[_,_]) U U Tryz.sizeOf33 U U U U (leb U) U U (Ja (hN13 _ _ (gT [box b2 _,box b4 _] U (Jb [(2,.pointer _)] ⟨U,O⟩ fun σ => ?_)))))))
  refine Ke fun w1 hM => ?_
  refine ⟨_,res1 rfl (rc 0 (cs := [_,_]) hM rfl rfl Tryz.isAgg33 Tryz.sizeOf33 rfl),?_⟩
  exact ⟨by rw [hF,Uf (f := fun _ a => apprCode a) hk1 hz (by show apprCode l[k] ≠ 0; rw [hC]; decide)]; show _ = Ending.returned (fv ⟨apprCode l[k],k⟩); rw [hC],hM.low⟩
  replace hc29 := odf hc29
  have hg0 : ¬ (l[k].user < 0 ∨ 7 < l[k].user ∨ l[k].dig < -1 ∨ dMod ≤ l[k].dig) := appr_good hu (by omega) (by rw [hdm]; first | exact hc29 | exact odf hc29 | omega)
  refine Jw (hN11 _ _ (Jb [(2,.pointer _),(3,.int _ _),(4,.pointer _),(9,.slice _ _ _),(10,.int _ _),(11,.int _ _)] ⟨U,U,U,U,U,U,O⟩ fun σ => Jg fun N14 hN14 => Jk (Jd (Jc fa70_1 U) U U U (Jd (Jq Tryz.isAgg9 U (Jm 1 U U)) U U U ?_))))
  refine Km (Kb (vs := [.string _]) Tryz.func44 U (by kernel_rfl) U) (fun w hM => Wb w _) U U U ?_
  refine Jd (Mp U) U U U (Ja (hN14 _ _ (Jb [(2,.pointer _),(3,.int _ _),(9,.slice _ _ _),(10,.int _ _),(11,.int _ _),(35,.bool _)] ⟨U,U,U,U,U,U,O⟩ fun σ => ?_)))
  refine Jt (b := _) U (fun hc35 => ?_) (fun hc35 => ?_)
  replace hc35 := Ub hc35
  have hC : apprCode l[k] = 12 := by rw [apprCode,if_neg hg0,if_neg (by simpa using hc35)]
  refine Jg fun N15 hN15 => Jk (Jd (Jf U) U U U (Jd (Kd (vs := [(0,_),(1,.int _ _)]) (cells := #[_,_]) U (Ma _ _)) U U U (Jr 0 (v := .agg #[_,_]) (cs' := #[_,_]) U U Tryz.sizeOf33 U U U U (leb U) U U (Ja (hN15 _ _ (gT [box b2 _,box b4 _] U (Jb [(2,.pointer _)] ⟨U,O⟩ fun σ => ?_)))))))
  refine Ke fun w1 hM => ?_
  refine ⟨_,res1 rfl (rc 0 (cs := [_,_]) hM rfl rfl Tryz.isAgg33 Tryz.sizeOf33 rfl),?_⟩
  exact ⟨by rw [hF,Uf (f := fun _ a => apprCode a) hk1 hz (by show apprCode l[k] ≠ 0; rw [hC]; decide)]; show _ = Ending.returned (fv ⟨apprCode l[k],k⟩); rw [hC],hM.low⟩
  replace hc35 := Ue hc35
  have hC0 : apprCode l[k] = 0 := by rw [apprCode,if_neg hg0,if_pos (by simpa using hc35)]
  refine Jw (hN9 _ _ (Jb [(2,.pointer _),(9,.slice _ _ _),(10,.int _ _),(11,.int _ _)] ⟨U,U,U,U,O⟩ fun σ => Jk (Jd (Kr U U ⟨by omega,by omega⟩) U U U (Jd (Jf U) U U U (Ja ?_)))))
  refine Kt (k + 1) (by omega) (⟨by omega,fun j h hj => by rcases Nat.lt_succ_iff_lt_or_eq.1 hj with h1 | rfl; exact hz j h h1; exact hC0⟩) ⟨U,O⟩ ⟨U,U,U,O⟩ ⟨_,U⟩
  have hg25d := odt hg25
  refine Jj U U U U hg25 U U (Jj U U U U hg25 U U (Jd (Jo U hg25 U) U U U (Ja (hN12 _ _ (Jb [(2,.pointer _),(3,.int _ _),(4,.pointer _),(9,.slice _ _ _),(10,.int _ _),(11,.int _ _),(29,.bool _)] ⟨U,U,U,U,U,U,U,O⟩ fun σ => ?_)))))
  refine Jt (b := _) U (fun hc29 => ?_) (fun hc29 => ?_)
  have hC : apprCode l[k] = 3 := by rw [apprCode,if_pos (appr_bad (by first | exact .inl hu | exact .inr (.inl (by omega)) | exact .inr (.inr (by rw [hdm]; first | exact hc29 | exact odt hc29))))]
  refine Jg fun N16 hN16 => Jk (Jd (Jf U) U U U (Jd (Kd (vs := [(0,_),(1,.int _ _)]) (cells := #[_,_]) U (Ma _ _)) U U U (Jr 0 (v := .agg #[_,_]) (cs' := #[_,_]) U U Tryz.sizeOf33 U U U U (leb U) U U (Ja (hN16 _ _ (gT [box b2 _,box b4 _] U (Jb [(2,.pointer _)] ⟨U,O⟩ fun σ => ?_)))))))
  refine Ke fun w1 hM => ?_
  refine ⟨_,res1 rfl (rc 0 (cs := [_,_]) hM rfl rfl Tryz.isAgg33 Tryz.sizeOf33 rfl),?_⟩
  exact ⟨by rw [hF,Uf (f := fun _ a => apprCode a) hk1 hz (by show apprCode l[k] ≠ 0; rw [hC]; decide)]; show _ = Ending.returned (fv ⟨apprCode l[k],k⟩); rw [hC],hM.low⟩
  cases hc29
  have hg20d := Ub hg20
  have hu : (decide (0 ≤ l[k].user) && decide (l[k].user ≤ 7)) = false := by simpa using hg20d
  refine Jj U U U U hg20 U U (Jj U U U U hg20 U U (Jd (Jo U hg20 U) U U U (Jd (Jn U) U U U (Jj U U U U U U U (Jj U U U U U U U (Jj U U U U U U U (Jd (Jo U U U) U U U (Ja ?_))))))))
  refine hN12 _ _ (Jb [(2,.pointer _),(3,.int _ _),(4,.pointer _),(9,.slice _ _ _),(10,.int _ _),(11,.int _ _),(29,.bool _)] ⟨U,U,U,U,U,U,U,O⟩ fun σ => ?_)
  refine Jt (b := _) U (fun hc29 => ?_) (fun hc29 => ?_)
  have hC : apprCode l[k] = 3 := by rw [apprCode,if_pos (appr_bad (by first | exact .inl hu | exact .inr (.inl (by omega)) | exact .inr (.inr (by rw [hdm]; first | exact hc29 | exact odt hc29))))]
  refine Jg fun N17 hN17 => Jk (Jd (Jf U) U U U (Jd (Kd (vs := [(0,_),(1,.int _ _)]) (cells := #[_,_]) U (Ma _ _)) U U U (Jr 0 (v := .agg #[_,_]) (cs' := #[_,_]) U U Tryz.sizeOf33 U U U U (leb U) U U (Ja (hN17 _ _ (gT [box b2 _,box b4 _] U (Jb [(2,.pointer _)] ⟨U,O⟩ fun σ => ?_)))))))
  refine Ke fun w1 hM => ?_
  refine ⟨_,res1 rfl (rc 0 (cs := [_,_]) hM rfl rfl Tryz.isAgg33 Tryz.sizeOf33 rfl),?_⟩
  exact ⟨by rw [hF,Uf (f := fun _ a => apprCode a) hk1 hz (by show apprCode l[k] ≠ 0; rw [hC]; decide)]; show _ = Ending.returned (fv ⟨apprCode l[k],k⟩); rw [hC],hM.low⟩
  cases hc29
  replace hc12 := odf hc12
  have hF2 : apprF l = ⟨0,0⟩ := by rw [hF]; exact Qy fun j hj => hz j hj (by omega)
  refine Mx ?_
  refine hN5 _ _ (Jb [(2,.pointer _)] ⟨U,O⟩ fun σ => Jg fun N18 hN18 => Jk (Jd (Kd (vs := []) (cells := #[.int .i64 0,.int .i64 0]) U Qh) U U U (Jr 0 (v := .agg #[_,_]) (cs' := #[_,_]) U U Tryz.sizeOf33 U U U U (leb U) U U (Ja (hN18 _ _ (gT [box b2 _] U (Jb [(2,.pointer _)] ⟨U,O⟩ fun σ => ?_)))))))
  refine Ke fun w1 hM => ?_
  refine ⟨_,res1 rfl (rc 0 (cs := [_,_]) hM rfl rfl Tryz.isAgg33 Tryz.sizeOf33 rfl),?_⟩
  exact ⟨by rw [hF2],hM.low⟩
set_option maxHeartbeats 8000000 in
theorem valid_any (w : World) (LA : Option Addr) (lc : Nat) (l : List Appr) (hl : Rdl w 0 3 apprCells LA l) (hll : l.length ≤ lc) (hlm : lc ≤ maxLen) (A : Option Addr) (c : Nat) (fs : List FileC) (hR : TreeR w 0 A c fs) : Calls Tryz.prog 12 #[.slice LA l.length lc, .agg #[.slice A fs.length c]] w fun e w' => ∃ v T', e = .returned (.tuple #[v, fv (validF l (fpl fs))]) ∧ T' = [rowl boolCells w.heap.size 4 1 (v) (validV l (fpl fs))] ∧ Mem w T' w' := by
 have hsl := hR.sb.len
 have hsm := hR.sb.max
 have hmx : maxLen = 9223372036854775807 := rfl
 refine Kz Tryz.func12 U Tryz.ntmps12 (leb U) ?_
 refine Jb [(0,.slice _ _ _),(1,.agg #[_])] ⟨U,U,O⟩ fun σ => Jg fun N1 hN1 => Jk ?_
 refine Mt (v := .agg #[_]) (cs := #[_]) U U U (fun b3 hb3 => ?_)
 refine Jd (Kq U) U U U ?_
 refine Ka (cs := #[.int .i64 0,.int .i64 0]) Tryz.zeroValue33 U U (fun b5 hb5 => ?_)
 refine Ja (hN1 _ _ (gT [box b3 _,box b5 _] U (Jb [(0,.slice _ _ _),(3,.pointer _),(5,.pointer _)] ⟨U,U,U,O⟩ fun σ => Jg fun N2 hN2 => Jg fun N3 hN3 => Jk (Jd (Kl U) U U U ?_))))
 refine Km (Kb (vs := [.slice _ _ _]) Tryz.func16 U (by kernel_rfl) U) (fun w hM => apprValidate_any w LA lc l (hl.base hM) hll hlm) U U U ?_
 refine Ka (cs := #[.int .i64 0,.int .i64 0]) Tryz.zeroValue33 U U (fun b6 hb6 => ?_)
 refine Jr 2 (v := .agg #[_,_]) (cs' := #[_,_]) U U Tryz.sizeOf33 U U U U (leb U) U U (Ja (hN3 _ _ (gT [box b3 _,box b5 _,box b6 _] U (Jb [(0,.slice _ _ _),(3,.pointer _),(5,.pointer _),(6,.pointer _)] ⟨U,U,U,U,O⟩ fun σ => Jg fun N4 hN4 => Jk (Jd (Kk (cs := [_,_]) Tryz.isAgg33 Tryz.sizeOf33 U U (Kf 2 U)) U U U (Jd (Kd (vs := []) (cells := #[.int .i64 0,.int .i64 0]) U Qh) U U U (Jd (Uk (vx := .agg #[_,_]) (vy := .agg #[_,_]) U U (fun w => eg33 _ _ _ _ _ w) (fun w => ne33 _ _ _ _ w)) U U U (Ja ?_))))))))
 refine hN4 _ _ (Jb [(0,.slice _ _ _),(3,.pointer _),(5,.pointer _),(6,.pointer _),(15,.bool _)] ⟨U,U,U,U,U,O⟩ fun σ => ?_)
 refine Jt (b := _) U (fun hc15 => ?_) (fun hc15 => ?_)
 replace hc15 := Qe.1 hc15
 have hF : validF l (fpl fs) = apprF l := by rw [validF,if_pos hc15]
 refine Jg fun N5 hN5 => ?_
 refine Qr [] [(1,room b5 33 2)] (by kernel_rfl) ?_
 refine Jv 0 (TK := [box b3 _,room b5 33 2,box b6 _]) U (by kernel_rfl) (by kernel_rfl) (by kernel_rfl) #[false,true,false] (by kernel_rfl) U (Kk (cs := [_,_]) Tryz.isAgg33 Tryz.sizeOf33 U U (Kf 2 U)) U U U (Kj 1 U U) (listed' := #[true,false,false]) U ?_
 refine Jv 1 (TK := [box b3 _,room b5 33 2,box b6 _]) U (by kernel_rfl) (by kernel_rfl) (by kernel_rfl) #[true,false,false] (by kernel_rfl) U (Kq U) U U U (Kj 1 U U) (listed' := #[true,true,false]) U ?_
 refine Mr 2 (k' := 0) (listed' := #[true,true,true]) (by kernel_rfl) U U U ?_
 refine Jr 1 (v := .agg #[_,_]) (cs' := #[_,_]) U U Tryz.sizeOf33 U U U U (leb U) U U (Ja ?_)
 refine Mo (TK := [box b3 _,room b5 33 2,box b6 _]) U (Kj 1 U U) ?_
 refine Qd (by kernel_rfl) ?_
 refine hN5 _ _ (gT [box b3 _,box b5 _,box b6 _] U (Jb [(4,.slice _ _ _),(5,.pointer _)] ⟨U,U,O⟩ fun σ => ?_))
 refine Ke fun w1 hM => ?_
 refine ⟨_,res2 rfl (rt (v := .slice _ _ _) rfl) (rc 1 (cs := [_,_]) hM rfl rfl Tryz.isAgg33 Tryz.sizeOf33 rfl),?_⟩
 exact ⟨_,_,by rw [hF],by rw [validV,if_neg (by rw [hF]; exact hc15)]; rfl,(Qa boolCells 4 1 hM).dropTo 3 rfl⟩
 replace hc15 := Qf.1 hc15
 have hFS : validF l (fpl fs) = secondF (treeF (fpl fs)) (-2) := by rw [validF,if_neg (fun h9 => h9 hc15)]
 refine Jw (hN2 _ _ (Jb [(0,.slice _ _ _),(3,.pointer _),(5,.pointer _)] ⟨U,U,U,O⟩ fun σ => Jg fun N6 hN6 => Jg fun N7 hN7 => Jk (Jd (Kk (cs := [_]) Tryz.isAgg61 Tryz.sizeOf61 U U (Kf 0 U)) U U U ?_)))
 refine Km (Kb (vs := [.agg #[_],_]) Tryz.func36 U (by kernel_rfl) U) (fun w hM => Wn w A c fs (hR.base hM) (-2)) U U U ?_
 refine Ka (cs := #[.int .i64 0,.int .i64 0]) Tryz.zeroValue33 U U (fun b7 hb7 => ?_)
 refine Jr 3 (v := .agg #[_,_]) (cs' := #[_,_]) U U Tryz.sizeOf33 U U U U (leb U) U U (Ja (hN7 _ _ (gT [box b3 _,box b5 _,box b6 _,box b7 _] U (Jb [(0,.slice _ _ _),(3,.pointer _),(5,.pointer _),(7,.pointer _)] ⟨U,U,U,U,O⟩ fun σ => Jg fun N8 hN8 => Jk (Jd (Kk (cs := [_,_]) Tryz.isAgg33 Tryz.sizeOf33 U U (Kf 3 U)) U U U (Jd (Kd (vs := []) (cells := #[.int .i64 0,.int .i64 0]) U Qh) U U U (Jd (Uk (vx := .agg #[_,_]) (vy := .agg #[_,_]) U U (fun w => eg33 _ _ _ _ _ w) (fun w => ne33 _ _ _ _ w)) U U U (Ja ?_))))))))
 refine hN8 _ _ (Jb [(0,.slice _ _ _),(3,.pointer _),(5,.pointer _),(7,.pointer _),(21,.bool _)] ⟨U,U,U,U,U,O⟩ fun σ => ?_)
 refine Jt (b := _) U (fun hc21 => ?_) (fun hc21 => ?_)
 replace hc21 := Qe.1 hc21
 have hF := hFS
 refine Jg fun N9 hN9 => ?_
 refine Qr [] [(1,room b5 33 2)] (by kernel_rfl) ?_
 refine Jv 0 (TK := [box b3 _,room b5 33 2,box b6 _,box b7 _]) U (by kernel_rfl) (by kernel_rfl) (by kernel_rfl) #[false,true,false] (by kernel_rfl) U (Kk (cs := [_,_]) Tryz.isAgg33 Tryz.sizeOf33 U U (Kf 3 U)) U U U (Kj 1 U U) (listed' := #[true,false,false]) U ?_
 refine Jv 1 (TK := [box b3 _,room b5 33 2,box b6 _,box b7 _]) U (by kernel_rfl) (by kernel_rfl) (by kernel_rfl) #[true,false,false] (by kernel_rfl) U (Kq U) U U U (Kj 1 U U) (listed' := #[true,true,false]) U ?_
 refine Mr 2 (k' := 0) (listed' := #[true,true,true]) (by kernel_rfl) U U U ?_
 refine Jr 1 (v := .agg #[_,_]) (cs' := #[_,_]) U U Tryz.sizeOf33 U U U U (leb U) U U (Ja ?_)
 refine Mo (TK := [box b3 _,room b5 33 2,box b6 _,box b7 _]) U (Kj 1 U U) ?_
 refine Qd (by kernel_rfl) ?_
 refine hN9 _ _ (gT [box b3 _,box b5 _,box b6 _,box b7 _] U (Jb [(4,.slice _ _ _),(5,.pointer _)] ⟨U,U,O⟩ fun σ => ?_))
 refine Ke fun w1 hM => ?_
 refine ⟨_,res2 rfl (rt (v := .slice _ _ _) rfl) (rc 1 (cs := [_,_]) hM rfl rfl Tryz.isAgg33 Tryz.sizeOf33 rfl),?_⟩
 exact ⟨_,_,by rw [hF],by rw [validV,if_neg (by rw [hF]; exact hc21)]; rfl,(Qa boolCells 4 1 hM).dropTo 4 rfl⟩
 replace hc21 := Qf.1 hc21
 have htz : treeF (fpl fs) = ⟨0,0⟩ := sec_ok hc21 (by decide)
 have v := Qq htz
 have hF : validF l (fpl fs) = ⟨0,0⟩ := hFS.trans hc21
 have hl40 := apprF_len hc15
 refine Jw (hN6 _ _ (Jb [(0,.slice _ _ _),(3,.pointer _),(5,.pointer _)] ⟨U,U,U,O⟩ fun σ => Jg fun N10 hN10 => Jk (Jd (Kq U) U U U (Ja (hN10 _ _ (Jb [(0,.slice _ _ _),(3,.pointer _),(5,.pointer _),(8,.slice _ _ _)] ⟨U,U,U,U,O⟩ fun σ => Jg fun N11 hN11 => Jg fun N12 hN12 => Jk (Jd (Kl U) U U U (Jd (Ks Tryz.underlying58 U) U U U ?_))))))))
 refine Jd (Jf U) U U U (Ja (hN12 _ _ (Jb [(3,.pointer _),(5,.pointer _),(8,.slice _ _ _),(23,.slice _ _ _),(24,.int _ _),(25,.int _ _)] ⟨U,U,U,U,U,U,O⟩ fun σ => Kn ?_)))
 refine Xw boolCells 4 1 ?_
 refine Mm [(8,.slice _ _ _),(25,.int _ _)] [(3,.pointer _),(5,.pointer _),(23,.slice _ _ _),(24,.int _ _)] ⟨U,U,O⟩ ⟨U,U,U,U,O⟩ fun σ => ?_
 refine Ml (G := Nat × Option Addr × Nat) (fun (k,Av,cv) => k ≤ l.length) (fun (k,Av,cv) => l.length - k) (fun (k,Av,cv) => [(8,.slice Av (validL (l.take k) (fpl fs)).length cv),(25,.int .i64 (k : Int))]) (fun (k,Av,cv) => [(4,rowl boolCells w.heap.size 4 1 (.slice Av (validL (l.take k) (fpl fs)).length cv) (validL (l.take k) (fpl fs)))]) ((0,none,0)) ?h0 ⟨U,U,O⟩ ⟨U,U,U,U,O⟩ U ?round
 case h0 => exact Nat.zero_le _
 case round =>
  rintro ⟨k,Av,cv⟩ hφ σ
  have hk : k ≤ l.length := hφ
  refine gT [box b3 _,box b5 _,box b6 _,box b7 _,rowl _ _ _ _ _ _] U (Jg fun N13 hN13 => Jk (Jd (Me U U) U U U (Ja (hN13 _ _ (Jb [(3,.pointer _),(5,.pointer _),(8,.slice Av _ cv),(23,.slice _ _ _),(24,.int _ _),(25,.int _ _),(26,.bool _)] ⟨U,U,U,U,U,U,U,O⟩ fun σ => Jg fun N14 hN14 => ?_)))))
  refine Jt (b := _) U (fun hc26 => ?_) (fun hc26 => ?_)
  replace hc26 := odt hc26
  have hk1 : k < l.length := by omega
  obtain ⟨ad,rfl,-,hca⟩ := hl.at_ hk1
  refine Jw (hN14 _ _ (Jb [(3,.pointer _),(5,.pointer _),(8,.slice Av _ cv),(23,.slice _ _ _),(24,.int _ _),(25,.int _ _)] ⟨U,U,U,U,U,U,O⟩ fun σ => Jg fun N15 hN15 => Kn (Jg fun N16 hN16 => Jk (Jd (Jz (m := k) Tryz.underlying58 Tryz.sizeOf70 U U (by omega) (by omega) (by omega)) U U U (Jd (Kk (cs := [_,_,_]) Tryz.isAgg70 Tryz.sizeOf70 U U (Mv hca)) U U U ?_)))))
  refine Ka (cs := #[.int .i64 0,.string .empty,.int .i64 0]) Tryz.zeroValue70 U U (fun b10 hb10 => ?_)
  refine Jr 5 (v := .agg #[_,_,_]) (cs' := #[_,_,_]) U U Tryz.sizeOf70 U U U U (leb U) U U (Ja (hN16 _ _ (gT [box b3 _,box b5 _,box b6 _,box b7 _,rowl _ _ _ _ _ _,box b10 _] U (Jb [(3,.pointer _),(5,.pointer _),(8,.slice Av _ cv),(10,.pointer _),(23,.slice _ _ _),(24,.int _ _),(25,.int _ _)] ⟨U,U,U,U,U,U,U,O⟩ fun σ => ?_))))
  refine Qr [] [(4,emp)] (by kernel_rfl) ?_
  refine Jv 0 (TK := [box b3 _,box b5 _,box b6 _,box b7 _,emp,box b10 _]) U (by kernel_rfl) (by kernel_rfl) (by kernel_rfl) #[false,true,true,true,true,true,true,true,true,false,false] (by kernel_rfl) U (Ju (v := .slice Av _ cv) U) U U U (Kw 4 U) (listed' := #[true,false,false,false,false,false,false,false,false,false,false]) U ?_
  refine Jv 1 (TK := [box b3 _,box b5 _,box b6 _,box b7 _,emp,box b10 _]) U (by kernel_rfl) (by kernel_rfl) (by kernel_rfl) #[true,false,false,true,true,true,true,false,false,false,false] (by kernel_rfl) U (Jc UU U) U U U (Kw 4 U) (listed' := #[true,true,false,false,false,false,false,false,false,false,false]) U ?_
  refine Jv 2 (TK := [box b3 _,box b5 _,box b6 _,box b7 _,emp,box b10 _]) U (by kernel_rfl) (by kernel_rfl) (by kernel_rfl) #[true,true,false,true,true,true,true,false,false,false,false] (by kernel_rfl) U (Jq Tryz.isAgg3 U (Jm 5 U U)) U U U (Kw 4 U) (listed' := #[true,true,true,false,false,false,false,false,false,false,false]) U ?_
  refine Jv 3 (TK := [box b3 _,box b5 _,box b6 _,box b7 _,emp,box b10 _]) U (by kernel_rfl) (by kernel_rfl) (by kernel_rfl) #[true,true,true,false,true,true,false,false,false,false,false] (by kernel_rfl) U (Kk (cs := [_]) Tryz.isAgg61 Tryz.sizeOf61 U U (Kf 0 U)) U U U (Kw 4 U) (listed' := #[true,true,true,true,false,false,false,false,false,false,false]) U ?_
  refine Jv 4 (TK := [box b3 _,box b5 _,box b6 _,box b7 _,emp,box b10 _]) U (by kernel_rfl) (by kernel_rfl) (by kernel_rfl) #[true,true,true,true,false,false,false,false,false,false,false] (by kernel_rfl) U (Jc fa70_1 U) U U U (Kw 4 U) (listed' := #[true,true,true,true,true,false,false,false,false,false,false]) U ?_
  refine Jv 5 (TK := [box b3 _,box b5 _,box b6 _,box b7 _,emp,box b10 _]) U (by kernel_rfl) (by kernel_rfl) (by kernel_rfl) #[true,true,true,true,true,false,false,false,false,false,false] (by kernel_rfl) U (Jq Tryz.isAgg9 U (Jm 5 U U)) U U U (Kw 4 U) (listed' := #[true,true,true,true,true,true,false,false,false,false,false]) U ?_
  refine Mr 6 (k' := 0) (listed' := #[true,true,true,true,true,true,true,false,false,false,false]) (by kernel_rfl) U U U ?_
  refine Km (Kb (vs := [.agg #[_],.string _]) Tryz.func37 U (by kernel_rfl) U) (fun w hM => describe_any w A c fs (hR.base hM) v l[k].path) U U U ?_
  refine Ja ?_
  refine Mo (TK := [box b3 _,box b5 _,box b6 _,box b7 _,emp,box b10 _]) U (Kw 4 U) ?_
  refine Jv 7 (TK := [box b3 _,box b5 _,box b6 _,box b7 _,emp,box b10 _]) U (by kernel_rfl) (by kernel_rfl) (by kernel_rfl) #[true,true,true,true,true,true,true,false,false,false,false] (by kernel_rfl) U (Mc U U) U U U (Kw 4 U) (listed' := #[true,true,true,true,true,true,true,true,false,false,false]) U ?_
  refine Mr 8 (k' := 0) (listed' := #[true,true,true,true,true,true,true,true,true,false,false]) (by kernel_rfl) U U U ?_
  refine Qo (vs := [.bool _]) (cells := #[_]) Tryz.underlying46 Tryz.sizeOf4 Tryz.zeroValue4 U (by decide) (by decide) U U U U (fun b37 hb37 => ?_)
  refine Ja ?_
  refine Mo (TK := [box b3 _,box b5 _,box b6 _,box b7 _,emp,box b10 _]) U (Mb (Ko (T' := [box b3 _,box b5 _,box b6 _,box b7 _,rowl _ _ _ _ _ _,box b10 _]) U) (Kw 4 U)) ?_
  refine Mr 9 (k' := 0) (listed' := #[true,true,true,true,true,true,true,true,true,true,false]) (by kernel_rfl) U U U ?_
  refine Qj 4 (f := boolCells) (l2 := [decide (l[k].dig = descP (fpl fs) l[k].path)]) Tryz.underlying46 el4 wide_bool (v := .slice Av _ cv) U U U U (fun h => by cases h) (by simp [maxLen,validL]; omega) (by simp [validL]; omega) (Wp 6 U U) U (fun v38 => ?_)
  refine Ky (fun w hM => Ug (hM.own 4 U)) ?_
  rintro ⟨A38,c38,rfl,hc38,hm38⟩
  refine Ja ?_
  refine Mo (TK := [box b3 _,box b5 _,box b6 _,box b7 _,emp,box b10 _]) U (Mb (Ko (T' := [box b3 _,box b5 _,box b6 _,box b7 _,rowl _ _ _ _ _ _,box b10 _]) U) (Kw 4 U)) ?_
  refine Jv 10 (TK := [box b3 _,box b5 _,box b6 _,box b7 _,emp,box b10 _]) U (by kernel_rfl) (by kernel_rfl) (by kernel_rfl) #[true,true,true,true,true,true,true,true,true,true,false] (by kernel_rfl) U (Kx (v := .slice A38 _ c38) U) U U U (Mb (Ko (T' := [box b3 _,box b5 _,box b6 _,box b7 _,rowl _ _ _ _ _ _,box b10 _]) U) (Kw 4 U)) (listed' := #[true,true,true,true,true,true,true,true,true,true,true]) U ?_
  refine Qd (by kernel_rfl) ?_
  refine hN15 _ _ (gT [box b3 _,box b5 _,box b6 _,box b7 _,rowl _ _ _ _ _ _,box b10 _,box b37 _] U (Jb [(3,.pointer _),(5,.pointer _),(8,.slice A38 _ c38),(23,.slice _ _ _),(24,.int _ _),(25,.int _ _)] ⟨U,U,U,U,U,U,O⟩ fun σ => Jk (Jd (Kr U U ⟨by omega,by omega⟩) U U U (Jd (Jf U) U U U (Ja ?_)))))
  rw [← validL_succ hk1]
  refine Kt ((k + 1,A38,c38)) (by show l.length - (k + 1) < l.length - k; omega) (show k + 1 ≤ _ by omega) ⟨(by rw [validL_succ hk1]; rfl),U,trivial⟩ ⟨U,U,U,U,O⟩ ⟨_,U⟩
  replace hc26 := odf hc26
  refine Mx ?_
  refine hN11 _ _ (Jb [(5,.pointer _),(8,.slice Av _ cv)] ⟨U,U,O⟩ fun σ => Jg fun N17 hN17 => Jk (Jd (Ju (v := .slice Av _ cv) U) U U U (Jd (Kd (vs := []) (cells := #[.int .i64 0,.int .i64 0]) U Qh) U U U (Jd (Kx (v := .slice Av _ cv) U) U U U (Jr 1 (v := .agg #[_,_]) (cs' := #[_,_]) U U Tryz.sizeOf33 U U U U (leb U) U U (Ja (hN17 _ _ (gT [box b3 _,box b5 _,box b6 _,box b7 _,rowl _ _ _ _ _ _] U ?_))))))))
  refine Jb [(4,.slice Av _ cv),(5,.pointer _)] ⟨U,U,O⟩ fun σ => ?_
  refine Ke fun w1 hM => ?_
  refine ⟨_,res2 rfl (rt (v := .slice Av _ cv) rfl) (rc 1 (cs := [_,_]) hM rfl rfl Tryz.isAgg33 Tryz.sizeOf33 rfl),?_⟩
  have hke : l.take k = l := List.take_of_length_le (by omega)
  rw [hke] at hM
  exact ⟨_,_,by rw [hF,hke],by rw [validV,if_pos hF]; rfl,hM.dropTo 4 rfl⟩
end Go.Proofs.YtbkameioedmlkaaGreatDoor
namespace Go.Proofs
open Go.Shelf
def Tryz.growF_ren : Go.Shelf.Ren := ⟨fun | 4 => 103 | n => n, fun | 22 => 59 | 25 => 85 | 3 => 3 | 4 => 4 | 9 => 9 | 20 => 20 | 0 => 0 | n => n, fun | n => n⟩
theorem Tryz.growF : Go.Proofs.Lays8.n4 Tryz.prog Tryz.growF_ren := {
  mixed := by kernel_rfl
  f4 := ⟨Tryz.f103.name, by decide, Tryz.func103.trans (congrArg some (by kernel_rfl))⟩
  t0 := Tryz.underlying0
  a0 := Tryz.isAgg0
  z0 := Tryz.sizeOf0
  v0 := Tryz.zeroValue0
  t3 := Tryz.underlying3
  a3 := Tryz.isAgg3
  z3 := Tryz.sizeOf3
  v3 := Tryz.zeroValue3
  t4 := Tryz.underlying4
  a4 := Tryz.isAgg4
  z4 := Tryz.sizeOf4
  v4 := Tryz.zeroValue4
  t9 := Tryz.underlying9
  a9 := Tryz.isAgg9
  z9 := Tryz.sizeOf9
  v9 := Tryz.zeroValue9
  t20 := Tryz.underlying20
  a20 := Tryz.isAgg20
  z20 := Tryz.sizeOf20
  v20 := Tryz.zeroValue20
  t22 := Tryz.underlying59
  a22 := Tryz.isAgg59
  z22 := Tryz.sizeOf59
  v22 := Tryz.zeroValue59 }
end Go.Proofs
namespace Go.Proofs.YtbkameioedmlkaaGreatDoor
open Go.RowKit Go.Cf Go.Sort
theorem elFile : Elem Tryz.prog 85 2 40 := Xz (z := .agg #[.string .empty, .slice none 0 0]) (by kernel_rfl) rfl (by decide)
theorem growF_any (w : World) (n : Nat) (hn : n ≤ 1000) :
    Calls Tryz.prog 103 #[.slice none 0 0, .int .i64 (n : Int)] w fun e w' => ∃ v T', e = .returned v ∧ T' = [rowl fileCells w.heap.size 85 2 v []] ∧ Mem w T' w' := by
  rcases Nat.eq_zero_or_pos n with rfl | hn0
  · exact (Any8.slices_Grow_room Tryz.growF none 0 0 0 w (Nat.le_refl _) (by omega) (by omega) (by omega)).mono fun _ _ ⟨h1, h2⟩ => ⟨_, _, h1, rfl, by rw [h2]; exact Qa fileCells _ 2 (Mem.start w)⟩
  · obtain ⟨i0, z, hi, hz, hs, hb, hzc, hp⟩ := elFile
    refine (Any8.slices_Grow_grow Tryz.growF i0 z hi hz (by omega) none 0 0 n [] w (Nat.le_refl _) (by omega) (by rw [hb]; omega) (by omega) (by simp) (fun _ => rfl) (fun a h => by cases h)).mono fun _ w' ⟨h1, h2⟩ => ⟨_, _, h1, rfl, ?_⟩
    have hm : grownCap w (0 + n) 0 85 ≤ maxLen := grownCap_le_maxLen w _ _ _ (by unfold maxLen; omega)
    have hg : 0 + n ≤ grownCap w (0 + n) 0 85 := grownCap_ge w _ _ _
    have hbl : Below w.heap.size w w' := by
      rw [h2]
      exact ((Below.refl _ _).drew).alloc (Nat.le_refl _) _
    have hsz : w'.heap.size = w.heap.size + 1 := by rw [h2]; simp [World.alloc, World.drew, -World.alloc_eq, -World.drew_eq]
    have ho : w'.ownsRow w.heap.size 85 2 (.slice (some ⟨w.heap.size, 0, none⟩) 0 (grownCap w (0 + n) 0 85)) 0 [] := by
      rw [h2]
      exact World.ownsRow_made w.drew _ _ (Nat.le_refl _) hm (by
        simp only [Array.size_append, List.size_toArray, List.length_nil, size_zeroCells, hzc]
        show 0 + (0 + n - 0) * 2 + (grownCap w (0 + n) 0 85 - (0 + n)) * 2 = grownCap w (0 + n) 0 85 * 2
        omega)
    refine (Mem.start w).add hbl ho ?_
    intro b h9
    have hb' : some w.heap.size = some b := h9
    injection hb' with hb'
    omega
theorem flat_strs (l : List ByteArray) : l.flatMap strCells = (l.map fun s => s.data.toList).map encStr := by
  induction l with
  | nil => rfl
  | cons a l ih => rw [List.flatMap_cons, ih]; rfl
theorem strs_ob (l : List (List UInt8)) : (l.map ob).flatMap strCells = l.map encStr := by
  induction l with
  | nil => rfl
  | cons a l ih => rw [List.map_cons, List.flatMap_cons, ih]; rfl
def sortS (l : List ByteArray) : List ByteArray := (sortL (l.map fun s => s.data.toList)).map ob
theorem sortS_len (l : List ByteArray) : (sortS l).length = l.length := by simp [sortS, JX]
theorem sortS_on (w0 w : World) (fr : Reg) (A : Option Addr) (c base : Nat) (l : List ByteArray) (hM : Mem w0 [rowl strCells base 9 1 (.slice A l.length c) l, fr] w) (hl : l.length < 1000000) :
    Calls Tryz.prog 73 #[.slice A l.length c] w fun e w' => ∃ v r' G, e = .returned v ∧ (v = .tuple #[] ∧ r' = rowl strCells base 9 1 (.slice A l.length c) (sortS l) ∧ G = []) ∧ Mem w0 (r' :: fr :: G) w' := by
  have hown := hM.own 0 rfl
  rcases hown.2 with ⟨h1, h0⟩ | ⟨g, cap, cur, hv, hbase, hb, h1, h2, h3, h4⟩
  · have hl0 : l = [] := List.eq_nil_of_length_eq_zero h0
    subst hl0
    cases h1
    exact (Tryz.slices_Sort_string_none none 0 w).mono fun _ _ ⟨h1, h2⟩ => ⟨_, _, _, h1, ⟨rfl, rfl, rfl⟩, by subst h2; rw [show sortS [] = [] from List.eq_nil_of_length_eq_zero (sortS_len [])]; exact hM⟩
  · cases hv
    have hH := holds_of_block hb (ss := l.map fun s => s.data.toList) (by rw [← flat_strs]; simpa using h4)
    have hc := Tryz.slices_Sort_string g 0 c (l.map fun s => s.data.toList) w hH (Array.getElem?_eq_some_iff.1 hb).1 (by simp; omega)
    rw [List.length_map] at hc
    refine hc.mono fun _ w' ⟨h5, n, os, h6⟩ => ⟨_, _, _, h5, ⟨rfl, rfl, rfl⟩, ?_⟩
    have ho := ownsRow_sorted (n := n) (os := os) (ss := l.map fun s => s.data.toList) (ts := sortL (l.map fun s => s.data.toList)) (JX _) hbase hb (by simpa using h1) h2 h3
    have hg := grownBy_sorted (w := w) (g := g) (n := n) (os := os) (sortL (l.map fun s => s.data.toList)).toArray
    rw [show (sortL (l.map fun s => s.data.toList)).toArray = ((l.map fun s => s.data.toList).mergeSort fun x y => decide (x ≤ y)).toArray from rfl, ← h6] at ho hg
    refine hM.upd (i := 0) rfl ((Chg.of_grownBy hg)) ?_ (fun k hk => ?_)
    · show w'.ownsRow _ _ _ _ (sortS l).length ((sortS l).flatMap strCells)
      rw [sortS_len, sortS, strs_ob]
      rw [List.length_map] at ho
      exact ho
    · have hk' : some g = some k := hk
      injection hk' with hk'
      subst hk'
      exact ⟨.inl rfl, Nat.lt_of_lt_of_le (hM.lt _ (List.mem_of_getElem? (i := 0) rfl) g rfl) hg.size⟩
theorem own_cutS {α : Type} {f : α → List Value} {l m : List α} {size base g n c : Nat} {e : TypeId} {w : World} (hf : ∀ x, (f x).length = size) (h : w.ownsRow base e size (.slice (some ⟨g, 0, none⟩) n c) (l ++ m).length ((l ++ m).flatMap f)) :
    w.ownsRow base e size (.slice (some ⟨g, 0, none⟩) l.length c) l.length (l.flatMap f) := by
  rcases h.2 with ⟨h1, _⟩ | ⟨g', cap, cur, h1, h2, h3, h4, h5, h6, h7⟩
  · cases h1
  · simp only [Value.slice.injEq, Option.some.injEq, Addr.mk.injEq] at h1
    obtain ⟨⟨rfl, _, _⟩, _, rfl⟩ := h1
    refine ⟨Qb hf l, .inr ⟨g, c, cur, rfl, h2, h3, by simp at h4; omega, h5, h6, ?_⟩⟩
    have h8 := congrArg (List.take (l.length * size)) h7
    rw [List.take_take, List.flatMap_append, List.take_append_of_le_length (by rw [Qb hf]; omega), List.take_of_length_le (l := l.flatMap f) (by rw [Qb hf]; omega)] at h8
    rw [← h8]; congr 1
    rw [Nat.min_eq_left]
    exact Nat.mul_le_mul_right _ (by simp)
theorem compactS_on (w0 w : World) (fr : Reg) (A : Option Addr) (c base : Nat) (l : List ByteArray) (n : Nat) (hn : n = l.length) (hM : Mem w0 [rowl strCells base 9 1 (.slice A n c) (sortS l), fr] w) (hl : l.length < 1000000) :
    Calls Tryz.prog 74 #[.slice A n c] w fun e w' => ∃ v r' G, e = .returned v ∧ (r' = rowl strCells base 9 1 v (leafS l) ∧ G = []) ∧ Mem w0 (r' :: fr :: G) w' := by
  subst hn
  obtain ⟨z, hz⟩ : ∃ z, z = sortL (l.map fun s => s.data.toList) := ⟨_, rfl⟩
  have hzl : z.length = l.length := by rw [hz, JX, List.length_map]
  have hle := Lib.compact_length_le z
  rw [sortS, ← hz] at hM
  rw [leafS, ← hz]
  have hown := hM.own 0 rfl
  rcases hown.2 with ⟨h1, h0⟩ | ⟨g, cap, cur, hv, hbase, hb, h1, h2, h3, h4⟩
  · have hz0 : z = [] := List.eq_nil_of_length_eq_zero (by simpa using h0)
    subst hz0
    simp only [Value.slice.injEq] at h1
    obtain ⟨rfl, h1a, rfl⟩ := h1
    rw [h1a] at hM ⊢
    exact (Tryz.slices_Compact_string_empty none 0 w).mono fun _ _ ⟨h1, h2⟩ => ⟨_, _, _, h1, ⟨rfl, rfl⟩, by subst h2; exact hM⟩
  · simp only [Value.slice.injEq] at hv
    obtain ⟨rfl, -, rfl⟩ := hv
    rw [List.length_map, hzl] at h1
    rw [List.length_map, strs_ob] at h4
    have hH := holds_of_block hb (ss := z) (by simpa using h4)
    have hc := Tryz.slices_Compact_string g 0 c z w hH (by omega) (by omega)
    rw [hzl] at hc
    refine hc.mono fun _ w' ⟨h5, n, h6⟩ => ⟨_, _, _, h5, ⟨rfl, rfl⟩, ?_⟩
    have ho := ownsRow_sorted (n := n) (os := #[]) (ss := z) (ts := Lib.compact z ++ List.replicate (z.length - (Lib.compact z).length) []) (by simp; omega) hbase hb (by omega) h2 h3
    have hg := grownBy_sorted (w := w) (g := g) (n := n) (os := #[]) (Lib.compact z ++ List.replicate (z.length - (Lib.compact z).length) []).toArray
    rw [hzl] at ho hg
    rw [Sort.grow_empty, ← h6] at ho hg
    refine hM.upd (i := 0) rfl ((Chg.of_grownBy hg)) ?_ (fun k hk => ?_)
    · show w'.ownsRow _ _ _ _ ((Lib.compact z).map ob).length (((Lib.compact z).map ob).flatMap strCells)
      have hll : ((Lib.compact z ++ List.replicate (l.length - (Lib.compact z).length) []).map ob).length = l.length := by simp; omega
      have h9 := own_cutS (w := w') (f := strCells) (l := (Lib.compact z).map ob) (m := (List.replicate (l.length - (Lib.compact z).length) []).map ob) (size := 1) (base := base) (g := g) (n := l.length) (c := c) (e := 9) (fun _ => rfl) (by
        rw [← List.map_append, hll, strs_ob]; exact ho)
      rw [List.length_map] at h9 ⊢
      exact h9
    · have hk' : some g = some k := hk
      injection hk' with hk'
      subst hk'
      exact ⟨.inl rfl, Nat.lt_of_lt_of_le (hM.lt _ (List.mem_of_getElem? (i := 0) rfl) g rfl) hg.size⟩
end Go.Proofs.YtbkameioedmlkaaGreatDoor
namespace Go.Cf
open Go.RowKit
structure FsC where
  A : Option Addr
  c : Nat
  fs : List FileC
abbrev fsCells (x : FsC) : List Value := [.slice x.A x.fs.length x.c]
def catFs (l : List FsC) : List FileC := l.flatMap FsC.fs
theorem Zh {l : List FsC} {k : Nat} (hk : k < l.length) : catFs (l.take (k + 1)) = catFs (l.take k) ++ l[k].fs := by
  unfold catFs
  rw [List.take_succ_eq_append_getElem hk, List.flatMap_append]; simp
theorem catFs_n {l : List FsC} {k : Nat} (hk : k < l.length) : ((catFs (l.take (k + 1))).length : Int) = (catFs (l.take k)).length + (l[k].fs.length : Int) := by
  rw [Zh hk, List.length_append]; omega
theorem catFs_le {l : List FsC} (h : ∀ x ∈ l, x.fs.length ≤ 24) : ∀ k, (catFs (l.take k)).length ≤ 24 * k
  | 0 => by simp [catFs]
  | k + 1 => by
    rcases Nat.lt_or_ge k l.length with hk | hk
    · rw [Zh hk, List.length_append]
      have h1 := catFs_le h k
      have h2 := h _ (List.getElem_mem hk)
      omega
    · rw [List.take_of_length_le (by omega), ← List.take_of_length_le (l := l) hk]
      have h1 := catFs_le h k
      omega
def chgTo (a b : List FileP) (k : Nat) : List ByteArray := (((a ++ b).map FileP.path).take k).filter (diffAt a b)
theorem chgTo_len (a b : List FileP) (k : Nat) : (chgTo a b k).length ≤ k := Nat.le_trans (List.length_filter_le _ _) (by simp; omega)
theorem chg_at {fs gs : List FileC} {k : Nat} (hk : k < (fs ++ gs).length) : (((fpl fs ++ fpl gs).map FileP.path)[k]'(by simpa using hk)) = (fs ++ gs)[k].pl.path := by
  have e : (fpl fs ++ fpl gs).map FileP.path = (fs ++ gs).map fun f => f.pl.path := by
    simp only [List.map_append, List.map_map]; rfl
  simp only [e, List.getElem_map]
theorem Xk {fs gs : List FileC} {k : Nat} (hk : k < (fs ++ gs).length) (h : diffAt (fpl fs) (fpl gs) (fs ++ gs)[k].pl.path = true) : chgTo (fpl fs) (fpl gs) (k + 1) = chgTo (fpl fs) (fpl gs) k ++ [(fs ++ gs)[k].pl.path] := by
  unfold chgTo
  rw [List.take_succ_eq_append_getElem (by simpa using hk), List.filter_append, chg_at hk]
  congr 1
  exact List.filter_cons_of_pos h
theorem chgTo_no {fs gs : List FileC} {k : Nat} (hk : k < (fs ++ gs).length) (h : diffAt (fpl fs) (fpl gs) (fs ++ gs)[k].pl.path = false) : chgTo (fpl fs) (fpl gs) (k + 1) = chgTo (fpl fs) (fpl gs) k := by
  unfold chgTo
  rw [List.take_succ_eq_append_getElem (by simpa using hk), List.filter_append, chg_at hk]
  rw [List.filter_cons_of_neg (by rw [h]; decide)]
  exact List.append_nil _
theorem chgTo_all {fs gs : List FileC} {k : Nat} (hk : ¬ k < (fs ++ gs).length) : leafS (chgTo (fpl fs) (fpl gs) k) = chgL (fpl fs) (fpl gs) := by
  unfold chgTo chgL
  rw [List.take_of_length_le (by simp at hk ⊢; omega)]
theorem find_none_of {fs : List FileC} {p : ByteArray} (h : ∀ f ∈ fs, f.pl.path ≠ p) : findP (fpl fs) p = none := UM.2 fun f hf => by
  obtain ⟨g, hg, rfl⟩ := List.mem_map.1 hf
  exact h g hg
theorem find_some_of {fs : List FileC} (v : VTree (fpl fs)) {p : ByteArray} {k : Nat} (hk : k < fs.length) (hp : fs[k].pl.path = p) : findP (fpl fs) p = some fs[k].pl := by
  have h1 := findP_at v (k := k) (by simpa using hk)
  rw [List.getElem_map, hp] at h1
  exact h1
theorem diff_left {fs : List FileC} {b : List FileP} {p : ByteArray} (h : ∀ f ∈ fs, f.pl.path ≠ p) : diffAt (fpl fs) b p = true := by
  rw [diffAt, find_none_of h]
theorem diff_right {gs : List FileC} {a : List FileP} {p : ByteArray} (h : ∀ f ∈ gs, f.pl.path ≠ p) : diffAt a (fpl gs) p = true := by
  rw [diffAt, find_none_of h]
  cases findP a p <;> rfl
theorem diff_both {fs gs : List FileC} (v : VTree (fpl fs)) (v2 : VTree (fpl gs)) {p : ByteArray} {i j : Nat} (hi : i < fs.length) (hp : fs[i].pl.path = p) (hj : j < gs.length) (hq : gs[j].pl.path = p) :
    diffAt (fpl fs) (fpl gs) p = !decide (fs[i].pl.lines = gs[j].pl.lines) := by
  rw [diffAt, find_some_of v hi hp, find_some_of v2 hj hq]
def doneTo (rs : List Rule) (l : List Appr) (fs : List FileP) (p : ByteArray) (j : Nat) : Bool := decide ((findU rs p).length = 0) || (l.take j).any (coverB (findU rs p) p fs)
section
variable {rs : List Rule} {l : List Appr} {fs : List FileP} {p : ByteArray} {j : Nat} {own : List Int} {a : Appr}
theorem doneTo_zero : decide (((findU rs p).length : Int) = 0) = doneTo rs l fs p 0 := by
  unfold doneTo
  rw [List.take_zero, List.any_nil, Bool.or_false]
  by_cases h : (findU rs p).length = 0
  · rw [decide_eq_true h, decide_eq_true (by omega)]
  · rw [decide_eq_false h, decide_eq_false (by omega)]
theorem Ya (hj : j < l.length) : doneTo rs l fs p (j + 1) = (doneTo rs l fs p j || coverB (findU rs p) p fs l[j]) := by
  unfold doneTo
  rw [List.take_succ_eq_append_getElem hj, List.any_append, List.any_cons, List.any_nil, Bool.or_false, Bool.or_assoc]
theorem doneTo_all (hj : ¬ j < l.length) : doneTo rs l fs p j = doneB rs l fs p := by
  unfold doneTo doneB
  rw [List.take_of_length_le (by omega)]
theorem cover_yes (h1 : decide (a.dig = descP fs a.path) = true) (h2 : (a.path.toList == p.toList) = true) : coverB own p fs a = hasI own a.user := by
  rw [coverB, h1, decide_eq_true (Yv h2)]; rfl
theorem cover_no1 (h1 : decide (a.dig = descP fs a.path) = false) : coverB own p fs a = false := by
  rw [coverB, h1]; rfl
theorem cover_no2 (h2 : (a.path.toList == p.toList) = false) : coverB own p fs a = false := by
  rw [coverB, decide_eq_false (sb_ne_f h2), Bool.false_and, Bool.and_false]
theorem done_old (hj : j < l.length) (h : doneTo rs l fs p j = true) : true = doneTo rs l fs p (j + 1) := by rw [Ya hj, h]; rfl
theorem done_yes (hj : j < l.length) (h : doneTo rs l fs p j = false) (h1 : decide (l[j].dig = descP fs l[j].path) = true) (h2 : (l[j].path.toList == p.toList) = true) : hasI (findU rs p) l[j].user = doneTo rs l fs p (j + 1) := by
  rw [Ya hj, h, cover_yes h1 h2]; rfl
theorem done_no1 (hj : j < l.length) (h : doneTo rs l fs p j = false) (h1 : decide (l[j].dig = descP fs l[j].path) = false) : false = doneTo rs l fs p (j + 1) := by
  rw [Ya hj, h, cover_no1 h1]; rfl
theorem done_no2 (hj : j < l.length) (h : doneTo rs l fs p j = false) (h2 : (l[j].path.toList == p.toList) = false) : false = doneTo rs l fs p (j + 1) := by
  rw [Ya hj, h, cover_no2 h2]; rfl
theorem validV_len (h : validF l fs = ⟨0, 0⟩) : (validV l fs).length = l.length := by rw [validV, if_pos h]; simp [validL]
theorem validV_get (h : validF l fs = ⟨0, 0⟩) (hj : j < l.length) : (validV l fs)[j]? = some (decide (l[j].dig = descP fs l[j].path)) := by
  rw [validV, if_pos h, validL, List.getElem?_map, List.getElem?_eq_getElem hj]; rfl
end
def missTo (rs : List Rule) (l : List Appr) (a b : List FileP) (k : Nat) : List ByteArray := ((chgL a b).take k).filter fun p => !doneB rs l b p
section
variable {rs : List Rule} {l : List Appr} {a b : List FileP} {k : Nat}
theorem missTo_len (rs : List Rule) (l : List Appr) (a b : List FileP) (k : Nat) : (missTo rs l a b k).length ≤ k := Nat.le_trans (List.length_filter_le _ _) (by simp; omega)
theorem missTo_yes (hk : k < (chgL a b).length) (h : (!doneB rs l b (chgL a b)[k]) = true) : missTo rs l a b (k + 1) = missTo rs l a b k ++ [(chgL a b)[k]] := by
  unfold missTo
  rw [List.take_succ_eq_append_getElem hk, List.filter_append]
  congr 1
  exact List.filter_cons_of_pos h
theorem missTo_no (hk : k < (chgL a b).length) (h : (!doneB rs l b (chgL a b)[k]) = false) : missTo rs l a b (k + 1) = missTo rs l a b k := by
  unfold missTo
  rw [List.take_succ_eq_append_getElem hk, List.filter_append, List.filter_cons_of_neg (by rw [h]; decide)]
  exact List.append_nil _
theorem missTo_all (hk : ¬ k < (chgL a b).length) : missTo rs l a b k = missL rs l a b := by
  unfold missTo missL
  rw [List.take_of_length_le (by omega)]
theorem missF_1 {f : Fault} (h : validF l b = f) (hf : f ≠ ⟨0, 0⟩) : missF rs l a b = f := by rw [missF, if_pos (by rw [h]; exact hf), h]
theorem missF_2 (h : validF l b = ⟨0, 0⟩) (hf : secondF (treeF a) (-3) ≠ ⟨0, 0⟩) : missF rs l a b = secondF (treeF a) (-3) := by rw [missF, if_neg (fun h9 => h9 h), if_pos (sec_ne hf)]
theorem missF_3 (h : validF l b = ⟨0, 0⟩) (h2 : treeF a = ⟨0, 0⟩) : missF rs l a b = secondF (rulesF rs) (-4) := by rw [missF, if_neg (fun h9 => h9 h), if_neg (fun h9 => h9 h2)]
end
theorem Xn {α : Type} {f : α → List Value} {l : List α} {base size n c : Nat} {e : TypeId} {A : Option Addr} {w : World} (h : (rowl f base e size (.slice A n c) l).ok w) (hl : 0 < l.length) : ∃ g, A = some ⟨g, 0, none⟩ := by
  have ho : w.ownsRow base e size (.slice A n c) l.length (l.flatMap f) := h
  rcases ho.2 with ⟨_, h0⟩ | ⟨g, cap, cur, hv, _⟩
  · omega
  · cases hv; exact ⟨g, rfl⟩
section
variable {fs : List FileP} {u : Int} {ps : List ByteArray} {q : Fault}
theorem Xf (h : approveF fs u ps = ⟨0, 0⟩) {k : Nat} (hk : k < ps.length) : (approveV fs u ps)[k]? = some ⟨u, ps[k], descP fs ps[k]⟩ := by
  rw [approveV, if_pos h, approveL, List.getElem?_map, List.getElem?_eq_getElem hk]; rfl
theorem approveV_len (h : approveF fs u ps = ⟨0, 0⟩) : (approveV fs u ps).length = ps.length := by rw [approveV, if_pos h]; simp [approveL]
end
end Go.Cf
namespace Go.Proofs.YtbkameioedmlkaaGreatDoor
open Go.RowKit Go.Cf
set_option maxRecDepth 10000
theorem el85 : Elem Tryz.prog 85 2 40 := Xz (z := .agg #[.string .empty, .slice none 0 0]) (by kernel_rfl) rfl (by decide)
set_option maxHeartbeats 4000000 in
theorem concat_any (w : World) (A : Option Addr) (c : Nat) (l : List FsC) (hl : Rdl w 0 1 fsCells A l) (hn : l.length ≤ 4) (he : ∀ x ∈ l, TreeR w 0 x.A x.c x.fs ∧ x.fs.length ≤ 24) : Calls Tryz.prog 71 #[.slice A l.length c] w fun e w' => ∃ v T' lo, e = .returned v ∧ w.heap.size ≤ lo ∧ T' = [rowl fileCells lo 85 2 (v) (catFs l)] ∧ Mem w T' w' := by
 have hcb := catFs_le (fun x hx => (he x hx).2)
 refine Kz Tryz.func71 U Tryz.ntmps71 (leb U) ?_
 refine Jb [(0,.slice _ _ _)] ⟨U,O⟩ fun σ => Jg fun N1 hN1 => Jk (Jd (Kq U) U U U (Ja (hN1 _ _ (Jb [(0,.slice _ _ _)] ⟨U,O⟩ fun σ => Jg fun N2 hN2 => Jk (Jd (Jh U) U U U (Ja (hN2 _ _ (Jb [(0,.slice _ _ _),(3,.int _ _)] ⟨U,U,O⟩ fun σ => ?_))))))))
 refine Jg fun N3 hN3 => Jg fun N4 hN4 => Jk (Jd (Kl U) U U U (Jd (Ks Tryz.underlying176 U) U U U (Jd (Jf U) U U U (Ja (hN4 _ _ (Jb [(0,.slice _ _ _),(3,.int _ _),(9,.slice _ _ _),(10,.int _ _),(11,.int _ _)] ⟨U,U,U,U,U,O⟩ fun σ => Kn ?_))))))
 refine Mm [(3,.int _ _),(11,.int _ _)] [(0,.slice _ _ _),(9,.slice _ _ _),(10,.int _ _)] ⟨U,U,O⟩ ⟨U,U,U,O⟩ fun σ => ?_
 refine Ml (G := Nat) (fun k => k ≤ l.length) (fun k => l.length - k) (fun k => [(3,.int .i64 ((catFs (l.take k)).length : Int)),(11,.int .i64 (k : Int))]) (fun k => []) (0) ?h0 ⟨U,U,O⟩ ⟨U,U,U,O⟩ U ?round
 case h0 => exact Nat.zero_le _
 case round =>
  intro k hφ σ
  have hk : k ≤ l.length := hφ
  refine Jg fun N5 hN5 => Jk (Jd (Me U U) U U U (Ja (hN5 _ _ (Jb [(0,.slice _ _ _),(3,.int _ _),(9,.slice _ _ _),(10,.int _ _),(11,.int _ _),(12,.bool _)] ⟨U,U,U,U,U,U,O⟩ fun σ => Jg fun N6 hN6 => ?_))))
  refine Jt (b := _) U (fun hc12 => ?_) (fun hc12 => ?_)
  replace hc12 := odt hc12
  have hk1 : k < l.length := by omega
  obtain ⟨ad,rfl,-,hca⟩ := hl.at_ hk1
  have hk24 := (he _ (List.getElem_mem hk1)).2
  have hcbk := hcb k
  refine Jw (hN6 _ _ (Jb [(0,.slice _ _ _),(3,.int _ _),(9,.slice _ _ _),(10,.int _ _),(11,.int _ _)] ⟨U,U,U,U,U,O⟩ fun σ => Jg fun N7 hN7 => Kn (Jg fun N8 hN8 => Jk (Jd (Jz (m := k) Tryz.underlying176 Tryz.sizeOf59 U U (by omega) (by omega) (by omega)) U U U (Jd (Jq Tryz.isAgg59 U (Ms (hca 0 _ U))) U U U (Jd (Kq U) U U U (Ja (hN8 _ _ ?_))))))))
  refine Jb [(0,.slice _ _ _),(3,.int _ _),(5,.slice _ _ _),(9,.slice _ _ _),(10,.int _ _),(11,.int _ _)] ⟨U,U,U,U,U,U,O⟩ fun σ => Jg fun N9 hN9 => Jk (Jd (Jf U) U U U (Jd (Kl U) U U U (Jd (Ks Tryz.underlying59 U) U U U (Jd (Kr U U ⟨by omega,by omega⟩) U U U (Jd (Jh U) U U U (Ja (hN9 _ _ (Jb [(0,.slice _ _ _),(3,.int _ _),(9,.slice _ _ _),(10,.int _ _),(11,.int _ _)] ⟨U,U,U,U,U,O⟩ fun σ => ?_))))))))
  refine Jg fun N10 hN10 => Jk (Jd (Jf U) U U U (Jd (Me U U) U U U (Ja (hN10 _ _ (Jb [(0,.slice _ _ _),(3,.int _ _),(9,.slice _ _ _),(10,.int _ _),(11,.int _ _),(20,.bool _)] ⟨U,U,U,U,U,U,O⟩ fun σ => ?_)))))
  refine Jt (b := _) U (fun hc20 => ?_) (fun hc20 => ?_)
  exfalso; have h9 := odt hc20; omega
  replace hc20 := odf hc20
  refine Jw (hN7 _ _ (Jb [(0,.slice _ _ _),(3,.int _ _),(9,.slice _ _ _),(10,.int _ _),(11,.int _ _)] ⟨U,U,U,U,U,O⟩ fun σ => Jk (Jd (Kr U U ⟨by omega,by omega⟩) U U U (Jd (Jf U) U U U (Ja ?_)))))
  refine Kt (k + 1) (by omega) (show k + 1 ≤ _ by omega) ⟨(congrArg (Value.int .i64) (catFs_n hk1).symm),U,trivial⟩ ⟨U,U,U,O⟩ ⟨_,U⟩
  replace hc12 := odf hc12
  have hcbk := hcb k
  have hke : l.take k = l := List.take_of_length_le (by omega)
  rw [hke] at hcbk ⊢
  refine Mx ?_
  refine hN3 _ _ (Jb [(0,.slice _ _ _),(3,.int _ _)] ⟨U,U,O⟩ fun σ => Jg fun N11 hN11 => Jk (Jd (Jf U) U U U ?_))
  refine My (fun v T' => ∃ lo,w.heap.size ≤ lo ∧ T' = [rowl fileCells lo 85 2 (v) ([])]) (Kb (vs := [_,.int _ _]) Tryz.func103 U (by kernel_rfl) U) (fun w hM => by have hc := growF_any w (catFs l).length (by omega); exact hc.mono fun _ _ ⟨v,T1,h1,h2,h3⟩ => ⟨v,T1,h1,⟨_,hM.low.size,h2⟩,h3⟩) U U U ?_
  rintro v24 _ ⟨lo24,hlo24,rfl⟩
  refine Ky (fun w hM => Mz (hM.ok _ (List.mem_of_getElem? (i := 0) U))) ?_
  rintro ⟨A24,c24,rfl,hc24,hm24,hn24⟩
  refine Yk _ (Wg 0 U hlo24) ?_
  refine Jd (Kx (v := .slice A24 _ c24) U) U U U (Ja (hN11 _ _ (gT [rowl _ _ _ _ _ _] U (Jb [(0,.slice _ _ _),(6,.slice A24 _ c24)] ⟨U,U,O⟩ fun σ => Jg fun N12 hN12 => Jg fun N13 hN13 => Jk (Jd (Kl U) U U U (Jd (Ks Tryz.underlying176 U) U U U (Jd (Jf U) U U U (Ja ?_))))))))
  refine hN13 _ _ (Jb [(6,.slice A24 _ c24),(25,.slice _ _ _),(26,.int _ _),(27,.int _ _)] ⟨U,U,U,U,O⟩ fun σ => Kn ?_)
  refine Mm [(6,.slice A24 _ c24),(27,.int _ _)] [(25,.slice _ _ _),(26,.int _ _)] ⟨U,U,O⟩ ⟨U,U,O⟩ fun σ => ?_
  refine Ml (G := Nat × Option Addr × Nat) (fun (k,Av,cv) => k ≤ l.length) (fun (k,Av,cv) => l.length - k) (fun (k,Av,cv) => [(6,.slice Av (catFs (l.take k)).length cv),(27,.int .i64 (k : Int))]) (fun (k,Av,cv) => [(0,rowl fileCells w.heap.size 85 2 (.slice Av (catFs (l.take k)).length cv) (catFs (l.take k)))]) ((0,A24,c24)) ?h0 ⟨U,U,O⟩ ⟨U,U,O⟩ U ?round
  case h0 => exact Nat.zero_le _
  case round =>
   rintro ⟨k,Av,cv⟩ hφ σ
   have hk : k ≤ l.length := hφ
   refine gT [rowl _ _ _ _ _ _] U (Jg fun N14 hN14 => Jk (Jd (Me U U) U U U (Ja (hN14 _ _ (Jb [(6,.slice Av _ cv),(25,.slice _ _ _),(26,.int _ _),(27,.int _ _),(28,.bool _)] ⟨U,U,U,U,U,O⟩ fun σ => Jg fun N15 hN15 => ?_)))))
   refine Jt (b := _) U (fun hc28 => ?_) (fun hc28 => ?_)
   replace hc28 := odt hc28
   have hk1 : k < l.length := by omega
   obtain ⟨ad,rfl,-,hca⟩ := hl.at_ hk1
   have hRk := he _ (List.getElem_mem hk1)
   have hcbj := hcb k
   refine Jw (hN15 _ _ (Jb [(6,.slice Av _ cv),(25,.slice _ _ _),(26,.int _ _),(27,.int _ _)] ⟨U,U,U,U,O⟩ fun σ => Jg fun N16 hN16 => Kn (Jg fun N17 hN17 => Jk (Jd (Jz (m := k) Tryz.underlying176 Tryz.sizeOf59 U U (by omega) (by omega) (by omega)) U U U (Jd (Jq Tryz.isAgg59 U (Ms (hca 0 _ U))) U U U (Jd (Kq U) U U U (Ja (hN17 _ _ ?_))))))))
   refine Jb [(6,.slice Av _ cv),(8,.slice _ _ _),(25,.slice _ _ _),(26,.int _ _),(27,.int _ _)] ⟨U,U,U,U,U,O⟩ fun σ => Jk (Jd (Ju (v := .slice Av _ cv) U) U U U (Jd (Kl U) U U U ?_))
   refine Qj 0 (f := fileCells) (l2 := l[k].fs) Tryz.underlying59 el85 Uq (v := .slice Av _ cv) U U U U hRk.1.sb.nil (by simp [maxLen]; omega) (by omega) (fun w hM => (hRk.1.rd.base hM).src (fun _ => U)) U (fun v33 => ?_)
   refine Ky (fun w hM => Ug (hM.own 0 U)) ?_
   rintro ⟨A33,c33,rfl,hc33,hm33⟩
   refine Jd (Kx (v := .slice A33 _ c33) U) U U U (Ja (hN16 _ _ (gT [rowl _ _ _ _ _ _] U (Jb [(6,.slice A33 _ c33),(25,.slice _ _ _),(26,.int _ _),(27,.int _ _)] ⟨U,U,U,U,O⟩ fun σ => Jk (Jd (Kr U U ⟨by omega,by omega⟩) U U U (Jd (Jf U) U U U (Ja ?_)))))))
   rw [← Zh hk1]
   refine Kt ((k + 1,A33,c33)) (by show l.length - (k + 1) < l.length - k; omega) (show k + 1 ≤ _ by omega) ⟨(by rw [Zh hk1]; rfl),U,trivial⟩ ⟨U,U,O⟩ ⟨_,U⟩
   replace hc28 := odf hc28
   refine Mx ?_
   refine hN12 _ _ (Jb [(6,.slice Av _ cv)] ⟨U,O⟩ fun σ => Jg fun N18 hN18 => Jk (Jd (Ju (v := .slice Av _ cv) U) U U U (Jd (Kx (v := .slice Av _ cv) U) U U U (Ja (hN18 _ _ (Jb [(2,.slice Av _ cv)] ⟨U,O⟩ fun σ => ?_))))))
   refine Ke fun w1 hM => ?_
   refine ⟨_,res1 rfl (rt (v := .slice Av _ cv) rfl),?_⟩
   have hke2 : l.take k = l := List.take_of_length_le (by omega)
   rw [hke2] at hM
   exact ⟨_,_,_,by rw [hke2],Nat.le_refl _,rfl,hM⟩
set_option maxHeartbeats 1000000 in
theorem equal_any (w : World) (A B : Option Addr) (c c' : Nat) (l m : List ByteArray) (hA : Rdl w 0 1 strCells A l) (hB : Rdl w 0 1 strCells B m) (n : Nat) (hn : n = l.length) (hl : l.length ≤ maxLen) : Calls Tryz.prog 72 #[.slice A n c, .slice B m.length c'] w fun e w' => e = .returned (.bool (decide (l = m))) ∧ Below w.heap.size w w' := by
 subst hn
 unfold maxLen at hl
 refine Kz Tryz.func72 U Tryz.ntmps72 (leb U) ?_
 refine Jb [(0,.slice _ _ _),(1,.slice _ _ _)] ⟨U,U,O⟩ fun σ => Jg fun N1 hN1 => Jk (Jd (Ji U) U U U (Ja (hN1 _ _ (Jb [(0,.slice _ _ _),(1,.slice _ _ _)] ⟨U,U,O⟩ fun σ => Jg fun N2 hN2 => Jg fun N3 hN3 => Jk (Jd (Kl U) U U U (Jd (Ks Tryz.underlying22 U) U U U (Jd (Kl U) U U U (Jd (Ks Tryz.underlying22 U) U U U ?_))))))))
 refine Jd (Uj U U) U U U (Ja (hN3 _ _ (Jb [(0,.slice _ _ _),(1,.slice _ _ _),(10,.bool _)] ⟨U,U,U,O⟩ fun σ => ?_)))
 refine Jt (b := _) U (fun hc10 => ?_) (fun hc10 => ?_)
 replace hc10 := odt hc10
 refine Jg fun N4 hN4 => Jk (Jd (Ji U) U U U (Ja (hN4 _ _ (Jb [(4,.bool _)] ⟨U,O⟩ fun σ => ?_))))
 refine Ke fun w1 hM => ?_
 refine ⟨_,res1 rfl (rt (v := .bool _) rfl),?_⟩
 exact ⟨by rw [decide_eq_false (fun e => by subst e; omega)],hM.low⟩
 replace hc10 := Decidable.not_not.1 (odf hc10)
 refine Jw (hN2 _ _ (Jb [(0,.slice _ _ _),(1,.slice _ _ _)] ⟨U,U,O⟩ fun σ => Jg fun N5 hN5 => Jg fun N6 hN6 => Jk (Jd (Kl U) U U U (Jd (Ks Tryz.underlying22 U) U U U (Jd (Jf U) U U U (Ja (hN6 _ _ (Jb [(0,.slice _ _ _),(1,.slice _ _ _),(12,.int _ _),(13,.int _ _)] ⟨U,U,U,U,O⟩ fun σ => ?_))))))))
 refine Kn ?_
 refine Mm [(13,.int _ _)] [(0,.slice _ _ _),(1,.slice _ _ _),(12,.int _ _)] ⟨U,O⟩ ⟨U,U,U,O⟩ fun σ => ?_
 refine Ml (G := Nat) (fun k => k ≤ l.length ∧ l.length = m.length ∧ l.take k = m.take k) (fun k => l.length - k) (fun k => [(13,.int .i64 (k : Int))]) (fun k => []) (0) ?h0 ⟨U,O⟩ ⟨U,U,U,O⟩ U ?round
 case h0 => exact ⟨Nat.zero_le _,by omega,by simp⟩
 case round =>
  intro k hφ σ
  obtain ⟨hk,hlm,htk⟩ := hφ
  refine Jg fun N7 hN7 => Jk (Jd (Me U U) U U U (Ja (hN7 _ _ (Jb [(0,.slice _ _ _),(1,.slice _ _ _),(12,.int _ _),(13,.int _ _),(14,.bool _)] ⟨U,U,U,U,U,O⟩ fun σ => Jg fun N8 hN8 => ?_))))
  refine Jt (b := _) U (fun hc14 => ?_) (fun hc14 => ?_)
  replace hc14 := odt hc14
  have hk1 : k < l.length := by omega
  obtain ⟨ad,rfl,-,hca⟩ := hA.at_ hk1
  obtain ⟨ad',rfl,-,hcb⟩ := hB.at_ (k := k) (by omega)
  refine Jw (hN8 _ _ (Jb [(0,.slice _ _ _),(1,.slice _ _ _),(12,.int _ _),(13,.int _ _)] ⟨U,U,U,U,O⟩ fun σ => Jg fun N9 hN9 => Kn (Jg fun N10 hN10 => Jk (Jd (Jf U) U U U (Jd (Jh U) U U U (Ja (hN10 _ _ (Jb [(0,.slice _ _ _),(1,.slice _ _ _),(5,.int _ _),(12,.int _ _),(13,.int _ _)] ⟨U,U,U,U,U,O⟩ fun σ => ?_))))))))
  refine Jg fun N11 hN11 => ?_
  refine Qx (by kernel_rfl) (by kernel_rfl) ?_
  refine gq (Kl U) U U U (gq (Jf U) U U U (gq (Jz Tryz.underlying22 Tryz.sizeOf9 U U U (by omega) (by omega)) U U U (gq (Jq Tryz.isAgg9 U (Ms (hca 0 _ U))) U U U (gq (Kl U) U U U (gq (Jf U) U U U (gq (Jz Tryz.underlying22 Tryz.sizeOf9 U U U (by omega) (by omega)) U U U (gq (Jq Tryz.isAgg9 U (Ms (hcb 0 _ U))) U U U (gq (Yd U U) U U U ?_))))))))
  refine Mn ?_
  refine hN11 _ _ (Jb [(0,.slice _ _ _),(1,.slice _ _ _),(12,.int _ _),(13,.int _ _),(24,.bool _)] ⟨U,U,U,U,U,O⟩ fun σ => ?_)
  refine Jt (b := _) U (fun hc24 => ?_) (fun hc24 => ?_)
  replace hc24 := strEq_ne2 hc24
  refine Jg fun N12 hN12 => Jk (Jd (Ji U) U U U (Ja (hN12 _ _ (Jb [(4,.bool _)] ⟨U,O⟩ fun σ => ?_))))
  refine Ke fun w1 hM => ?_
  refine ⟨_,res1 rfl (rt (v := .bool _) rfl),?_⟩
  exact ⟨by rw [decide_eq_false (ne_of_at hk1 (by omega) hc24)],hM.low⟩
  replace hc24 := Yv (by simpa using hc24)
  refine Jw (hN9 _ _ (Jb [(0,.slice _ _ _),(1,.slice _ _ _),(12,.int _ _),(13,.int _ _)] ⟨U,U,U,U,O⟩ fun σ => Jk (Jd (Kr U U ⟨by omega,by omega⟩) U U U (Jd (Jf U) U U U (Ja ?_)))))
  refine Kt (k + 1) (by omega) (⟨by omega,hlm,take_next l m k (by omega) (by omega) htk hc24⟩) ⟨U,O⟩ ⟨U,U,U,O⟩ ⟨_,U⟩
  replace hc14 := odf hc14
  refine Mx ?_
  refine hN5 _ _ (Jb [] trivial fun σ => Jg fun N13 hN13 => Jk (Jd (Ji U) U U U (Ja (hN13 _ _ (Jb [(4,.bool _)] ⟨U,O⟩ fun σ => ?_)))))
  refine Ke fun w1 hM => ?_
  refine ⟨_,res1 rfl (rt (v := .bool _) rfl),?_⟩
  exact ⟨by rw [decide_eq_true (eq_of_takes hlm (by omega) htk)],hM.low⟩
set_option maxHeartbeats 16000000 in
theorem changed_any (w : World) (A : Option Addr) (c : Nat) (fs : List FileC) (hR : TreeR w 0 A c fs) (v : VTree (fpl fs)) (B : Option Addr) (d : Nat) (gs : List FileC) (hS : TreeR w 0 B d gs) (v2 : VTree (fpl gs)) : Calls Tryz.prog 39 #[.agg #[.slice A fs.length c], .agg #[.slice B gs.length d]] w fun e w' => ∃ v T', e = .returned v ∧ T' = [rowl strCells w.heap.size 9 1 (v) (chgL (fpl fs) (fpl gs))] ∧ Mem w T' w' := by
 have hsl := hR.sb.len
 have hsm := hR.sb.max
 have hmx : maxLen = 9223372036854775807 := rfl
 have hA24 : fs.length ≤ 24 := by have h9 := v.len; simpa using h9
 have hB24 : gs.length ≤ 24 := by have h9 := v2.len; simpa using h9
 have hall : (fs ++ gs).length = fs.length + gs.length := List.length_append
 refine Kz Tryz.func39 U Tryz.ntmps39 (leb U) ?_
 refine Jb [(0,.agg #[_]),(1,.agg #[_])] ⟨U,U,O⟩ fun σ => Jg fun N1 hN1 => Jk ?_
 refine Mt (v := .agg #[_]) (cs := #[_]) U U U (fun b2 hb2 => ?_)
 refine Mt (v := .agg #[_]) (cs := #[_]) U U U (fun b3 hb3 => ?_)
 refine Jd (Kq U) U U U (Ja (hN1 _ _ (gT [box b2 _,box b3 _] U (Jb [(2,.pointer _),(3,.pointer _)] ⟨U,U,O⟩ fun σ => Jg fun N2 hN2 => Jk (Jd (Kq U) U U U (Ja (hN2 _ _ (Jb [(2,.pointer _),(3,.pointer _),(5,.slice _ _ _)] ⟨U,U,U,O⟩ fun σ => ?_))))))))
 refine Jg fun N3 hN3 => Jg fun N4 hN4 => Jk (Jd (Jc Qm U) U U U (Jd (Jq Tryz.isAgg59 U (Jm 0 U U)) U U U (Jd (Jc Qm U) U U U (Jd (Jq Tryz.isAgg59 U (Jm 1 U U)) U U U ?_))))
 refine Qo (vs := [.slice _ _ _,.slice _ _ _]) (cells := #[_,_]) Tryz.underlying176 Tryz.sizeOf59 Tryz.zeroValue59 U (by decide) (by decide) U U U U (fun b16 hb16 => ?_)
 refine My (fun v T' => ∃ lo,w.heap.size ≤ lo ∧ T' = [rowl fileCells lo 85 2 (v) ((fs ++ gs))]) (Kb (vs := [.slice (some _) _ _]) Tryz.func71 U (by kernel_rfl) U) (fun w hM => by have hr : Rdl w 0 1 fsCells (some ⟨b16,0,none⟩) [⟨A,c,fs⟩,⟨B,d,gs⟩] := (Rdl.of_box 2 (f := fsCells) (fun _ => rfl) hM rfl rfl).mono (Nat.zero_le _); have he : ∀ x ∈ ([⟨A,c,fs⟩,⟨B,d,gs⟩] : List FsC),TreeR w 0 x.A x.c x.fs ∧ x.fs.length ≤ 24 := (fun x hx => by rcases List.mem_cons.1 hx with rfl | hx; exact ⟨hR.base hM,hA24⟩; obtain rfl := List.mem_singleton.1 hx; exact ⟨hS.base hM,hB24⟩); have hc := concat_any w (some ⟨b16,0,none⟩) 2 [⟨A,c,fs⟩,⟨B,d,gs⟩] hr (by simp) he; rw [show catFs [⟨A,c,fs⟩,⟨B,d,gs⟩] = fs ++ gs from by simp [catFs]] at hc; exact hc.mono fun _ _ ⟨v,T1,lo,h1,h2,h3,h4⟩ => ⟨v,T1,h1,⟨lo,Nat.le_trans hM.low.size h2,h3⟩,h4⟩) U U U ?_
 rintro v17 _ ⟨lo17,hlo17,rfl⟩
 refine Ky (fun w hM => Mz (hM.ok _ (List.mem_of_getElem? (i := 3) U))) ?_
 rintro ⟨A17,c17,rfl,hc17,hm17,hn17⟩
 refine Ky (Φ := 0 < ((fs ++ gs)).length → ∃ g,A17 = some ⟨g,0,none⟩) (fun w hM h9 => Xn (hM.ok _ (List.mem_of_getElem? (i := 3) U)) h9) ?_
 intro hg17
 refine Jd (Ks Tryz.underlying59 U) U U U (Jd (Jf U) U U U (Ja (hN4 _ _ (gT [box b2 _,box b3 _,box b16 _,rowl _ _ _ _ _ _] U (Jb [(2,.pointer _),(3,.pointer _),(5,.slice _ _ _),(17,.slice A17 _ c17),(18,.int _ _),(19,.int _ _)] ⟨U,U,U,U,U,U,O⟩ fun σ => Kn ?_)))))
 refine Xw strCells 9 1 ?_
 refine Mm [(5,.slice _ _ _),(19,.int _ _)] [(2,.pointer _),(3,.pointer _),(17,.slice A17 _ c17),(18,.int _ _)] ⟨U,U,O⟩ ⟨U,U,U,U,O⟩ fun σ => ?_
 refine Ml (G := Nat × Option Addr × Nat) (fun (k,Ov,ov) => k ≤ (fs ++ gs).length) (fun (k,Ov,ov) => (fs ++ gs).length - k) (fun (k,Ov,ov) => [(5,.slice Ov (chgTo (fpl fs) (fpl gs) k).length ov),(19,.int .i64 (k : Int))]) (fun (k,Ov,ov) => [(4,rowl strCells w.heap.size 9 1 (.slice Ov (chgTo (fpl fs) (fpl gs) k).length ov) (chgTo (fpl fs) (fpl gs) k))]) ((0,none,0)) ?h0 ⟨U,U,O⟩ ⟨U,U,U,U,O⟩ U ?round
 case h0 => exact Nat.zero_le _
 case round =>
  rintro ⟨k,Ov,ov⟩ hφ σ
  have hk : k ≤ (fs ++ gs).length := hφ
  have hcl := chgTo_len (fpl fs) (fpl gs) k
  refine gT [box b2 _,box b3 _,box b16 _,rowl _ _ _ _ _ _,rowl _ _ _ _ _ _] U (Jg fun N5 hN5 => Jk (Jd (Me U U) U U U (Ja (hN5 _ _ (Jb [(2,.pointer _),(3,.pointer _),(5,.slice Ov _ ov),(17,.slice A17 _ c17),(18,.int _ _),(19,.int _ _),(20,.bool _)] ⟨U,U,U,U,U,U,U,O⟩ fun σ => Jg fun N6 hN6 => ?_)))))
  refine Jt (b := _) U (fun hc20 => ?_) (fun hc20 => ?_)
  replace hc20 := odt hc20
  have hk1 : k < (fs ++ gs).length := by omega
  obtain ⟨g17,rfl⟩ := hg17 (by omega)
  refine Jw (hN6 _ _ (Jb [(2,.pointer _),(3,.pointer _),(5,.slice Ov _ ov),(17,.slice (some ⟨g17,0,none⟩) _ c17),(18,.int _ _),(19,.int _ _)] ⟨U,U,U,U,U,U,O⟩ fun σ => Jg fun N7 hN7 => Kn (Jg fun N8 hN8 => Jk (Jd (Jz (m := k) Tryz.underlying59 Tryz.sizeOf85 U U (by omega) (by omega) (by omega)) U U U ?_))))
  refine Jd (Kk (cs := [_,_]) Tryz.isAgg85 Tryz.sizeOf85 U U (cells_rowp 3 (f := fileCells) (l := (fs ++ gs)) U U (fun _ => U) (List.getElem?_eq_getElem hk1))) U U U ?_
  refine Ka (cs := #[.string .empty,.slice none 0 0]) Tryz.zeroValue85 U U (fun b7 hb7 => ?_)
  refine Jr 5 (v := .agg #[_,_]) (cs' := #[_,_]) U U Tryz.sizeOf85 U U U U (leb U) U U (Ja (hN8 _ _ (gT [box b2 _,box b3 _,box b16 _,rowl _ _ _ _ _ _,rowl _ _ _ _ _ _,box b7 _] U (Jb [(2,.pointer _),(3,.pointer _),(5,.slice Ov _ ov),(7,.pointer _),(17,.slice (some ⟨g17,0,none⟩) _ c17),(18,.int _ _),(19,.int _ _)] ⟨U,U,U,U,U,U,U,O⟩ fun σ => Jg fun N9 hN9 => Jk (Jd (Jc Qm U) U U U (Jd (Jq Tryz.isAgg59 U (Jm 0 U U)) U U U (Jd (Jc Wr U) U U U (Jd (Jq Tryz.isAgg9 U (Jm 5 U U)) U U U ?_))))))))
  refine My (fun v T' => T' = [] ∧ ∃ (kk : Nat) (b : Bool),v = .tuple #[.int .i64 (kk : Int),.bool b] ∧ (b = true → ∃ h : kk < fs.length,fs[kk].pl.path = (fs ++ gs)[k].pl.path) ∧ (b = false → ∀ f ∈ fs,f.pl.path ≠ (fs ++ gs)[k].pl.path)) (Kb (vs := [.slice _ _ _,.string _]) Tryz.func69 U (by kernel_rfl) U) (fun w hM => (Yp w A c fs (hR.base hM) v (fs ++ gs)[k].pl.path).mono fun _ _ ⟨k,b,h1,h2,h3,h4⟩ => ⟨_,[],h1,⟨U,k,b,U,h3,h4⟩,(Mem.start w).call h2⟩) U U U ?_
  rintro _ _ ⟨rfl,i,q1,rfl,hf1,hf2⟩
  refine Jd (Ju (v := .tuple #[.int _ _,.bool _]) U) U U U (Jd (Mg U U) U U U (Jd (Mi U U) U U U (Jd (Jh U) U U U (Jd (Ji U) U U U (Ja (hN9 _ _ (Jb [(2,.pointer _),(3,.pointer _),(5,.slice Ov _ ov),(7,.pointer _),(8,.int _ _),(9,.bool _),(17,.slice (some ⟨g17,0,none⟩) _ c17),(18,.int _ _),(19,.int _ _)] ⟨U,U,U,U,U,U,U,U,U,O⟩ fun σ => Jg fun N10 hN10 => Jk (Jd (Jc Qm U) U U U ?_))))))))
  refine Jd (Jq Tryz.isAgg59 U (Jm 1 U U)) U U U (Jd (Jc Wr U) U U U (Jd (Jq Tryz.isAgg9 U (Jm 5 U U)) U U U ?_))
  refine My (fun v T' => T' = [] ∧ ∃ (kk : Nat) (b : Bool),v = .tuple #[.int .i64 (kk : Int),.bool b] ∧ (b = true → ∃ h : kk < gs.length,gs[kk].pl.path = (fs ++ gs)[k].pl.path) ∧ (b = false → ∀ f ∈ gs,f.pl.path ≠ (fs ++ gs)[k].pl.path)) (Kb (vs := [.slice _ _ _,.string _]) Tryz.func69 U (by kernel_rfl) U) (fun w hM => (Yp w B d gs (hS.base hM) v2 (fs ++ gs)[k].pl.path).mono fun _ _ ⟨k,b,h1,h2,h3,h4⟩ => ⟨_,[],h1,⟨U,k,b,U,h3,h4⟩,(Mem.start w).call h2⟩) U U U ?_
  rintro _ _ ⟨rfl,j,q2,rfl,hf3,hf4⟩
  refine Jd (Ju (v := .tuple #[.int _ _,.bool _]) U) U U U (Jd (Mg U U) U U U (Jd (Mi U U) U U U (Jd (Jh U) U U U (Jd (Ji U) U U U (Ja (hN10 _ _ (Jb [(2,.pointer _),(3,.pointer _),(5,.slice Ov _ ov),(7,.pointer _),(8,.int _ _),(9,.bool _),(10,.int _ _),(11,.bool _),(17,.slice (some ⟨g17,0,none⟩) _ c17),(18,.int _ _),(19,.int _ _)] ⟨U,U,U,U,U,U,U,U,U,U,U,O⟩ fun σ => Jg fun N11 hN11 => ?_)))))))
  refine Qx (by kernel_rfl) (by kernel_rfl) ?_
  refine gq (Jn U) U U U (gq (Mp U) U U U (gq (Jn U) U U U ?_))
  refine Xb (want := false) U U U U U U (fun hg41 => ?_) (fun hg41 => ?_)
  have hb1 : q1 = true := by simpa using hg41
  refine gq (Je (Jn U)) U U U (Kp U U U U hg41 (gq (Je (Mp U)) U U U (gq (Jp U hg41 U) U U U (gq (Jn U) U U U ?_))))
  refine Xb (want := false) U U U U U U (fun hg45 => ?_) (fun hg45 => ?_)
  have hb2 : q2 = true := by simpa using hg45
  obtain ⟨hi1,hp1⟩ := hf1 hb1
  obtain ⟨hj1,hp2⟩ := hf3 hb2
  have hD := diff_both v v2 hi1 hp1 hj1 hp2
  have hRi := hR.each _ (List.getElem_mem hi1)
  have hSj := hS.each _ (List.getElem_mem hj1)
  obtain ⟨ad,rfl,-,hcx⟩ := hR.rd.at_ hi1
  obtain ⟨ad2,rfl,-,hcy⟩ := hS.rd.at_ hj1
  refine gq (Je (Jc Qm U)) U U U (Kp U U U U hg45 (gq (Je (Jq Tryz.isAgg59 U (Jm 0 U U))) U U U (Kp U U U U hg45 (gq (Je (Jf U)) U U U (Kp U U U U hg45 (gq (Je (Jz (m := i) Tryz.underlying59 Tryz.sizeOf85 U U (by omega) (by omega) (by omega))) U U U (Kp U U U U hg45 (gq (Je (Kv Zf U)) U U U ?_))))))))
  refine Kp U U U U hg45 (gq (Je (Jq Tryz.isAgg22 U (Ms (hcx 1 _ U)))) U U U (Kp U U U U hg45 (gq (Je (Jc Qm U)) U U U (Kp U U U U hg45 (gq (Je (Jq Tryz.isAgg59 U (Jm 1 U U))) U U U (Kp U U U U hg45 (gq (Je (Jf U)) U U U (Kp U U U U hg45 ?_))))))))
  refine gq (Je (Jz (m := j) Tryz.underlying59 Tryz.sizeOf85 U U (by omega) (by omega) (by omega))) U U U (Kp U U U U hg45 (gq (Je (Kv Zf U)) U U U (Kp U U U U hg45 (gq (Je (Jq Tryz.isAgg22 U (Ms (hcy 1 _ U)))) U U U (Kp U U U U hg45 ?_)))))
  refine Ww (Kb (vs := [.slice _ _ _,.slice _ _ _]) Tryz.func72 U (by kernel_rfl) U) (fun w hM => by have hc := equal_any w fs[i].A gs[j].A fs[i].c gs[j].c fs[i].pl.lines gs[j].pl.lines (hRi.rd.base hM) (hSj.rd.base hM) _ rfl (Nat.le_trans hRi.sb.len hRi.sb.max); exact hc) U U U ?_
  refine Kp U U U U hg45 (gq (Je (Mp U)) U U U (gq (Jp U hg45 U) U U U ?_))
  refine Mn ?_
  refine hN11 _ _ (Jb [(2,.pointer _),(3,.pointer _),(5,.slice Ov _ ov),(7,.pointer _),(17,.slice (some ⟨g17,0,none⟩) _ c17),(18,.int _ _),(19,.int _ _),(60,.bool _)] ⟨U,U,U,U,U,U,U,U,O⟩ fun σ => ?_)
  refine Jt (b := _) U (fun hc60 => ?_) (fun hc60 => ?_)
  have hd : diffAt (fpl fs) (fpl gs) (fs ++ gs)[k].pl.path = true := by first | exact hD | exact hD.trans hc60
  refine Jk (Jd (Ju (v := .slice Ov _ ov) U) U U U (Jd (Jc Wr U) U U U (Jd (Jq Tryz.isAgg9 U (Jm 5 U U)) U U U ?_)))
  refine Qo (vs := [.string _]) (cells := #[_]) Tryz.underlying22 Tryz.sizeOf9 Tryz.zeroValue9 U (by decide) (by decide) U U U U (fun b64 hb64 => ?_)
  refine Qj 4 (f := strCells) (l2 := [(fs ++ gs)[k].pl.path]) Tryz.underlying22 el9 Wl (v := .slice Ov _ ov) U U U U (fun h => by cases h) (by simp [maxLen]; omega) (by simp; omega) (Wp 6 U U) U (fun v65 => ?_)
  refine Ky (fun w hM => Ug (hM.own 4 U)) ?_
  rintro ⟨A65,c65,rfl,hc65,hm65⟩
  refine Jd (Kx (v := .slice A65 _ c65) U) U U U (Ja (hN7 _ _ (gT [box b2 _,box b3 _,box b16 _,rowl _ _ _ _ _ _,rowl _ _ _ _ _ _,box b7 _,box b64 _] U (Jb [(2,.pointer _),(3,.pointer _),(5,.slice A65 _ c65),(17,.slice (some ⟨g17,0,none⟩) _ c17),(18,.int _ _),(19,.int _ _)] ⟨U,U,U,U,U,U,O⟩ fun σ => Jk (Jd (Kr U U ⟨by omega,by omega⟩) U U U (Jd (Jf U) U U U (Ja ?_)))))))
  rw [← Xk hk1 hd]
  refine Kt ((k + 1,A65,c65)) (by show (fs ++ gs).length - (k + 1) < (fs ++ gs).length - k; omega) (show k + 1 ≤ _ by omega) ⟨(by rw [Xk hk1 hd]; rfl),U,trivial⟩ ⟨U,U,U,U,O⟩ ⟨_,U⟩
  have hd : diffAt (fpl fs) (fpl gs) (fs ++ gs)[k].pl.path = false := hD.trans hc60
  refine Jw (hN7 _ _ (Jb [(2,.pointer _),(3,.pointer _),(5,.slice Ov _ ov),(17,.slice (some ⟨g17,0,none⟩) _ c17),(18,.int _ _),(19,.int _ _)] ⟨U,U,U,U,U,U,O⟩ fun σ => Jk (Jd (Kr U U ⟨by omega,by omega⟩) U U U (Jd (Jf U) U U U (Ja ?_)))))
  rw [← chgTo_no hk1 hd]
  refine Kt ((k + 1,Ov,ov)) (by show (fs ++ gs).length - (k + 1) < (fs ++ gs).length - k; omega) (show k + 1 ≤ _ by omega) ⟨U,U,O⟩ ⟨U,U,U,U,O⟩ ⟨_,U⟩
  have hD := diff_right (a := fpl fs) (hf4 (by simpa using hg45))
  refine Kg U U U U hg45 U U (Kg U U U U hg45 U U (Kg U U U U hg45 U U (Kg U U U U hg45 U U (Kg U U U U hg45 U U (Kg U U U U hg45 U U (Kg U U U U hg45 U U (Kg U U U U hg45 U U (Kg U U U U hg45 U U ?_))))))))
  refine Kg U U U U hg45 U U (Kg U U U U hg45 U U (Kg U U U U hg45 U U (Kg U U U U hg45 U U (gq (Jo U hg45 U) U U U ?_))))
  refine Mn ?_
  refine hN11 _ _ (Jb [(2,.pointer _),(3,.pointer _),(5,.slice Ov _ ov),(7,.pointer _),(17,.slice (some ⟨g17,0,none⟩) _ c17),(18,.int _ _),(19,.int _ _),(60,.bool _)] ⟨U,U,U,U,U,U,U,U,O⟩ fun σ => ?_)
  refine Jt (b := _) U (fun hc60 => ?_) (fun hc60 => ?_)
  have hd : diffAt (fpl fs) (fpl gs) (fs ++ gs)[k].pl.path = true := by first | exact hD | exact hD.trans hc60
  refine Jk (Jd (Ju (v := .slice Ov _ ov) U) U U U (Jd (Jc Wr U) U U U (Jd (Jq Tryz.isAgg9 U (Jm 5 U U)) U U U ?_)))
  refine Qo (vs := [.string _]) (cells := #[_]) Tryz.underlying22 Tryz.sizeOf9 Tryz.zeroValue9 U (by decide) (by decide) U U U U (fun b64 hb64 => ?_)
  refine Qj 4 (f := strCells) (l2 := [(fs ++ gs)[k].pl.path]) Tryz.underlying22 el9 Wl (v := .slice Ov _ ov) U U U U (fun h => by cases h) (by simp [maxLen]; omega) (by simp; omega) (Wp 6 U U) U (fun v65 => ?_)
  refine Ky (fun w hM => Ug (hM.own 4 U)) ?_
  rintro ⟨A65,c65,rfl,hc65,hm65⟩
  refine Jd (Kx (v := .slice A65 _ c65) U) U U U (Ja (hN7 _ _ (gT [box b2 _,box b3 _,box b16 _,rowl _ _ _ _ _ _,rowl _ _ _ _ _ _,box b7 _,box b64 _] U (Jb [(2,.pointer _),(3,.pointer _),(5,.slice A65 _ c65),(17,.slice (some ⟨g17,0,none⟩) _ c17),(18,.int _ _),(19,.int _ _)] ⟨U,U,U,U,U,U,O⟩ fun σ => Jk (Jd (Kr U U ⟨by omega,by omega⟩) U U U (Jd (Jf U) U U U (Ja ?_)))))))
  rw [← Xk hk1 hd]
  refine Kt ((k + 1,A65,c65)) (by show (fs ++ gs).length - (k + 1) < (fs ++ gs).length - k; omega) (show k + 1 ≤ _ by omega) ⟨(by rw [Xk hk1 hd]; rfl),U,trivial⟩ ⟨U,U,U,U,O⟩ ⟨_,U⟩
  cases hc60
  have hD := diff_left (b := fpl gs) (hf2 (by simpa using hg41))
  refine Kg U U U U hg41 U U (gq (Jo U hg41 U) U U U (gq (Jn U) U U U (Kg U U U U U U U (Kg U U U U U U U (Kg U U U U U U U (Kg U U U U U U U (Kg U U U U U U U (Kg U U U U U U U ?_))))))))
  refine Kg U U U U U U U (Kg U U U U U U U (Kg U U U U U U U (Kg U U U U U U U (Kg U U U U U U U (Kg U U U U U U U (Kg U U U U U U U (Kg U U U U U U U (gq (Jo U U U) U U U ?_))))))))
  refine Mn ?_
  refine hN11 _ _ (Jb [(2,.pointer _),(3,.pointer _),(5,.slice Ov _ ov),(7,.pointer _),(17,.slice (some ⟨g17,0,none⟩) _ c17),(18,.int _ _),(19,.int _ _),(60,.bool _)] ⟨U,U,U,U,U,U,U,U,O⟩ fun σ => ?_)
  refine Jt (b := _) U (fun hc60 => ?_) (fun hc60 => ?_)
  have hd : diffAt (fpl fs) (fpl gs) (fs ++ gs)[k].pl.path = true := by first | exact hD | exact hD.trans hc60
  refine Jk (Jd (Ju (v := .slice Ov _ ov) U) U U U (Jd (Jc Wr U) U U U (Jd (Jq Tryz.isAgg9 U (Jm 5 U U)) U U U ?_)))
  refine Qo (vs := [.string _]) (cells := #[_]) Tryz.underlying22 Tryz.sizeOf9 Tryz.zeroValue9 U (by decide) (by decide) U U U U (fun b64 hb64 => ?_)
  refine Qj 4 (f := strCells) (l2 := [(fs ++ gs)[k].pl.path]) Tryz.underlying22 el9 Wl (v := .slice Ov _ ov) U U U U (fun h => by cases h) (by simp [maxLen]; omega) (by simp; omega) (Wp 6 U U) U (fun v65 => ?_)
  refine Ky (fun w hM => Ug (hM.own 4 U)) ?_
  rintro ⟨A65,c65,rfl,hc65,hm65⟩
  refine Jd (Kx (v := .slice A65 _ c65) U) U U U (Ja (hN7 _ _ (gT [box b2 _,box b3 _,box b16 _,rowl _ _ _ _ _ _,rowl _ _ _ _ _ _,box b7 _,box b64 _] U (Jb [(2,.pointer _),(3,.pointer _),(5,.slice A65 _ c65),(17,.slice (some ⟨g17,0,none⟩) _ c17),(18,.int _ _),(19,.int _ _)] ⟨U,U,U,U,U,U,O⟩ fun σ => Jk (Jd (Kr U U ⟨by omega,by omega⟩) U U U (Jd (Jf U) U U U (Ja ?_)))))))
  rw [← Xk hk1 hd]
  refine Kt ((k + 1,A65,c65)) (by show (fs ++ gs).length - (k + 1) < (fs ++ gs).length - k; omega) (show k + 1 ≤ _ by omega) ⟨(by rw [Xk hk1 hd]; rfl),U,trivial⟩ ⟨U,U,U,U,O⟩ ⟨_,U⟩
  cases hc60
  replace hc20 := odf hc20
  have hca := chgTo_all (fs := fs) (gs := gs) (k := k) (by omega)
  refine Mx ?_
  refine hN3 _ _ (Jb [(5,.slice Ov _ ov)] ⟨U,O⟩ fun σ => Jg fun N12 hN12 => Jk (Jd (Ju (v := .slice Ov _ ov) U) U U U ?_))
  refine Mu 4 (fun v r2 G => v = .tuple #[] ∧ r2 = rowl strCells w.heap.size 9 1 (.slice Ov (chgTo (fpl fs) (fpl gs) k).length ov) (sortS (chgTo (fpl fs) (fpl gs) k)) ∧ G = []) (Kb (vs := [.slice Ov _ ov]) Tryz.func73 U (by kernel_rfl) U) U (fun w fr1 hfr hM => sortS_on _ w fr1 Ov ov _ (chgTo (fpl fs) (fpl gs) k) hM (by omega)) U U U ?_
  rintro _ _ _ ⟨rfl,rfl,rfl⟩
  refine Ja (hN12 _ _ (gT [box b2 _,box b3 _,box b16 _,rowl _ _ _ _ _ _,rowl _ _ _ _ _ _] U (Jb [(5,.slice Ov _ ov)] ⟨U,O⟩ fun σ => Jg fun N13 hN13 => Jk (Jd (Ju (v := .slice Ov _ ov) U) U U U ?_))))
  refine Mu 4 (fun v r2 G => r2 = rowl strCells w.heap.size 9 1 (v) (leafS (chgTo (fpl fs) (fpl gs) k)) ∧ G = []) (Kb (vs := [.slice Ov _ ov]) Tryz.func74 U (by kernel_rfl) U) U (fun w fr1 hfr hM => compactS_on _ w fr1 Ov ov _ (chgTo (fpl fs) (fpl gs) k) _ U hM (by omega)) U U U ?_
  rintro v70 _ _ ⟨rfl,rfl⟩
  refine Jd (Kx (v := v70) U) U U U (Ja (hN13 _ _ (gT [box b2 _,box b3 _,box b16 _,rowl _ _ _ _ _ _,rowl _ _ _ _ _ _] U (Jb [(4,v70)] ⟨U,O⟩ fun σ => ?_))))
  refine Ke fun w1 hM => ?_
  refine ⟨_,res1 rfl (rt (v := v70) rfl),?_⟩
  have h9 := hM.dropTo 4 rfl
  rw [hca] at h9
  exact ⟨_,_,rfl,rfl,h9⟩
end Go.Proofs.YtbkameioedmlkaaGreatDoor
namespace Go.Proofs.YtbkameioedmlkaaGreatDoor
open Go.RowKit Go.Cf
set_option maxRecDepth 10000
set_option maxHeartbeats 1000000 in
theorem clone_any (w : World) (A : Option Addr) (c : Nat) (l : List ByteArray) (hl : Rdl w 0 1 strCells A l) (hb : l.length * 16 ≤ 140737488355328) (hA : A = none → c = 0) : Calls Tryz.prog 29 #[.slice A l.length c] w fun e w' => ∃ v T', e = .returned v ∧ T' = [rowl strCells w.heap.size 9 1 v l] ∧ Mem w T' w' := by
 refine Kz Tryz.func29 U Tryz.ntmps29 (leb U) ?_
 refine Jb [(0,.slice _ _ _)] ⟨U,O⟩ fun σ => Jg fun N1 hN1 => Jk (Jd (Kq U) U U U (Ja (hN1 _ _ (Jb [(0,.slice _ _ _)] ⟨U,O⟩ fun σ => Jg fun N2 hN2 => Jg fun N3 hN3 => Jk (Jd (Kl U) U U U (Jd (y_eqlnil Tryz.underlying22 U U) U U U (Ja (hN3 _ _ ?_))))))))
 refine Jb [(0,.slice _ _ _),(4,.bool _)] ⟨U,U,O⟩ fun σ => ?_
 refine Jt (b := _) U (fun hc4 => ?_) (fun hc4 => ?_)
 obtain rfl : A = none := by simpa using hc4
 obtain rfl : l = [] := by
   cases l with
   | nil => rfl
   | cons x t => obtain ⟨_,h,_⟩ := hl (by simp); cases h
 refine Jg fun N4 hN4 => Jk (Jd (Kq U) U U U (Ja (hN4 _ _ (Jb [(2,.slice _ _ _)] ⟨U,O⟩ fun σ => ?_))))
 refine Ke fun w1 hM => ?_
 refine ⟨_,res1 rfl (rt (v := .slice _ _ _) rfl),?_⟩
 exact ⟨_,_,rfl,rfl,Qa strCells _ 1 hM⟩
 refine Jw (hN2 _ _ (Jb [(0,.slice _ _ _)] ⟨U,O⟩ fun σ => Jg fun N5 hN5 => Jk ?_))
 refine gop_bslice0 strCells Tryz.underlying22 Tryz.sizeOf9 U (fun b5 hb5 => ?_)
 refine Jd (Kl U) U U U ?_
 refine Qj 0 (f := strCells) (l2 := l) Tryz.underlying22 el9 Wl (v := .slice (some ⟨b5,0,none⟩) 0 0) U U U U hA (by simp [maxLen]; omega) (by simp; omega) (fun w hM => (hl.base hM).src (fun _ => U)) U (fun v7 => ?_)
 refine Jd (Kx (v := v7) U) U U U (Ja (hN5 _ _ (gT [rowl _ _ _ _ _ _] U (Jb [(2,v7)] ⟨U,O⟩ fun σ => ?_))))
 refine Ke fun w1 hM => ?_
 refine ⟨_,res1 rfl (rt (v := v7) rfl),?_⟩
 exact ⟨_,_,rfl,rfl,hM⟩
set_option maxHeartbeats 1000000 in
theorem occurs_any (w : World) (A : Option Addr) (c : Nat) (l : List ByteArray) (hl : Rdl w 0 1 strCells A l) (hlc : l.length ≤ c) (hcm : c ≤ maxLen) (B : Option Addr) (d : Nat) (m : List ByteArray) (hm : Rdl w 0 1 strCells B m) (hmm : m.length ≤ maxLen) (a : Int) : Calls Tryz.prog 114 #[.slice A l.length c, .slice B m.length d, .int .i64 a] w fun e w' => e = .returned (.bool (occ l m a)) ∧ Below w.heap.size w w' := by
 have hmx : maxLen = 9223372036854775807 := rfl
 refine Kz Tryz.func114 U Tryz.ntmps114 (leb U) ?_
 refine Jb [(0,.slice _ _ _),(1,.slice _ _ _),(2,.int _ _)] ⟨U,U,U,O⟩ fun σ => Jg fun N1 hN1 => Jk (Jd (Ji U) U U U (Ja (hN1 _ _ (Jb [(0,.slice _ _ _),(1,.slice _ _ _),(2,.int _ _)] ⟨U,U,U,O⟩ fun σ => Jg fun N2 hN2 => Jk (Jd (Jf U) U U U (Jd (Wj U U) U U U (Jd (Jn U) U U U ?_)))))))
 refine Kh (want := true) U U U U U U (fun hg9 => ?_) (fun hg9 => ?_)
 have hg9d := odt hg9
 refine Jd (Je (Jf U)) U U U (Js U U U U hg9 (Jd (Je (Kl U)) U U U (Js U U U U hg9 (Jd (Je (Ks Tryz.underlying22 U)) U U U (Js U U U U hg9 (Jd (Je (Zj U U)) U U U (Jd (Jo U hg9 U) U U U (Jd (Jn U) U U U ?_))))))))
 refine Kh (want := true) U U U U U U (fun hg15 => ?_) (fun hg15 => ?_)
 have hg15d := odt hg15
 refine Jd (Je (Kl U)) U U U (Js U U U U hg15 (Jd (Je (Ks Tryz.underlying22 U)) U U U (Js U U U U hg15 (Jd (Je (Kl U)) U U U (Js U U U U hg15 (Jd (Je (Ks Tryz.underlying22 U)) U U U (Js U U U U hg15 (Jd (Je (Jf U)) U U U ?_))))))))
 refine Js U U U U hg15 (Jd (Je (Zi U U ⟨by omega,by omega⟩)) U U U (Js U U U U hg15 (Jd (Je (Zj U U)) U U U (Jd (Jo U hg15 U) U U U (Jd (Jn U) U U U ?_)))))
 refine Kh (want := true) U U U U U U (fun hg24 => ?_) (fun hg24 => ?_)
 have hg24d := odt hg24
 have he : (a + m.length).toNat - a.toNat = m.length := by omega
 refine Jd (Je (Kl U)) U U U (Js U U U U hg24 (Jd (Je (Jf U)) U U U (Js U U U U hg24 (Jd (Je (Jf U)) U U U (Js U U U U hg24 (Jd (Je (Kl U)) U U U (Js U U U U hg24 (Jd (Je (Ks Tryz.underlying22 U)) U U U ?_))))))))
 refine Js U U U U hg24 (Jd (Je (Kr U U ⟨by omega,by omega⟩)) U U U (Js U U U U hg24 (Jd (Je (y_slice Tryz.underlying22 Tryz.sizeOf9 U U U (by omega) (by omega) (by omega))) U U U (Js U U U U hg24 (Jd (Je (Kl U)) U U U (Js U U U U hg24 ?_))))))
 refine Km (Kb (vs := [.slice _ _ _,.slice _ _ _]) Tryz.func72 U (by kernel_rfl) U) (fun w hM => equal_any w _ _ _ _ ((l.drop a.toNat).take ((a + m.length).toNat - a.toNat)) m ((hl.cut (i := a.toNat) (j := (a + m.length).toNat) (cap := c) (by omega) (by omega) hlc).base hM) (hm.base hM) _ (by simp; omega) (by simp; omega)) U U U ?_
 refine Jd (Jo U hg24 U) U U U (Jd (Ji U) U U U (Ja (hN2 _ _ (Jb [(6,.bool _)] ⟨U,O⟩ fun σ => ?_))))
 refine Ke fun w1 hM => ?_
 refine ⟨_,res1 rfl (rt (v := .bool _) rfl),?_⟩
 first | exact ⟨by rw [he]; simp [occ,hg9d,hg15d,hg24d],hM.low⟩ | exact ⟨by rw [show occ l m a = false from by unfold occ; simp; intros; omega],hM.low⟩
 have hg24d := odf hg24
 refine Jj U U U U hg24 U U (Jj U U U U hg24 U U (Jj U U U U hg24 U U (Jj U U U U hg24 U U (Jj U U U U hg24 U U (Jj U U U U hg24 U U (Jj U U U U hg24 U U (Jj U U U U hg24 U U (Jd (Jp U hg24 U) U U U ?_))))))))
 refine Jd (Ji U) U U U (Ja (hN2 _ _ (Jb [(6,.bool _)] ⟨U,O⟩ fun σ => ?_)))
 refine Ke fun w1 hM => ?_
 refine ⟨_,res1 rfl (rt (v := .bool _) rfl),?_⟩
 first | exact ⟨by rw [he]; simp [occ,hg9d,hg15d,hg24d],hM.low⟩ | exact ⟨by rw [show occ l m a = false from by unfold occ; simp; intros; omega],hM.low⟩
 have hg15d := odf hg15
 refine Jj U U U U hg15 U U (Jj U U U U hg15 U U (Jj U U U U hg15 U U (Jj U U U U hg15 U U (Jj U U U U hg15 U U (Jj U U U U hg15 U U (Jd (Jp U hg15 U) U U U (Jd (Jn U) U U U (Jj U U U U U U U ?_))))))))
 refine Jj U U U U U U U (Jj U U U U U U U (Jj U U U U U U U (Jj U U U U U U U (Jj U U U U U U U (Jj U U U U U U U (Jj U U U U U U U (Jj U U U U U U U (Jd (Jp U U U) U U U ?_))))))))
 refine Jd (Ji U) U U U (Ja (hN2 _ _ (Jb [(6,.bool _)] ⟨U,O⟩ fun σ => ?_)))
 refine Ke fun w1 hM => ?_
 refine ⟨_,res1 rfl (rt (v := .bool _) rfl),?_⟩
 first | exact ⟨by rw [he]; simp [occ,hg9d,hg15d,hg24d],hM.low⟩ | exact ⟨by rw [show occ l m a = false from by unfold occ; simp; intros; omega],hM.low⟩
 have hg9d := odf hg9
 refine Jj U U U U hg9 U U (Jj U U U U hg9 U U (Jj U U U U hg9 U U (Jd (Jp U hg9 U) U U U (Jd (Jn U) U U U (Jj U U U U U U U (Jj U U U U U U U (Jj U U U U U U U (Jj U U U U U U U ?_))))))))
 refine Jj U U U U U U U (Jj U U U U U U U (Jj U U U U U U U (Jd (Jp U U U) U U U (Jd (Jn U) U U U (Jj U U U U U U U (Jj U U U U U U U (Jj U U U U U U U (Jj U U U U U U U ?_))))))))
 refine Jj U U U U U U U (Jj U U U U U U U (Jj U U U U U U U (Jj U U U U U U U (Jj U U U U U U U (Jd (Jp U U U) U U U (Jd (Ji U) U U U (Ja (hN2 _ _ ?_))))))))
 refine Jb [(6,.bool _)] ⟨U,O⟩ fun σ => ?_
 refine Ke fun w1 hM => ?_
 refine ⟨_,res1 rfl (rt (v := .bool _) rfl),?_⟩
 first | exact ⟨by rw [he]; simp [occ,hg9d,hg15d,hg24d],hM.low⟩ | exact ⟨by rw [show occ l m a = false from by unfold occ; simp; intros; omega],hM.low⟩
set_option maxHeartbeats 2000000 in
theorem raw_any (w : World) (A : Option Addr) (c : Nat) (hs : List HunkC) (hp : PatR w 0 A c hs) (B : Option Addr) (d : Nat) (text : List ByteArray) (ht : Rdl w 0 1 strCells B text) (htb : SB B text.length d 16) (v : PV (pls hs)) (htl : text.length ≤ 120) (hends : ∀ h ∈ pls hs, h.end_ ≤ text.length) : Calls Tryz.prog 115 #[.slice A hs.length c, .slice B text.length d, .int .i64 0, .int .i64 text.length] w fun e w' => ∃ v' T', e = .returned v' ∧ T' = [rowl strCells w.heap.size 9 1 v' (rawFrom 0 (pls hs) text)] ∧ Mem w T' w' := by
 have hvl : hs.length ≤ 130 := by simpa using v.len
 have htc := htb.len
 have htm := htb.max
 have hmx : maxLen = 9223372036854775807 := rfl
 refine Kz Tryz.func115 U Tryz.ntmps115 (leb U) ?_
 refine Jb [(0,.slice _ _ _),(1,.slice _ _ _),(2,.int _ _),(3,.int _ _)] ⟨U,U,U,U,O⟩ fun σ => Jg fun N1 hN1 => Jk (Jd (Kq U) U U U (Ja (hN1 _ _ (Jb [(0,.slice _ _ _),(1,.slice _ _ _),(2,.int _ _),(3,.int _ _)] ⟨U,U,U,U,O⟩ fun σ => Jg fun N2 hN2 => Jk (Jd (Kq U) U U U (Ja (hN2 _ _ (Jb [(0,.slice _ _ _),(1,.slice _ _ _),(2,.int _ _),(3,.int _ _),(9,.slice _ _ _)] ⟨U,U,U,U,U,O⟩ fun σ => ?_))))))))
 refine Jg fun N3 hN3 => Jg fun N4 hN4 => Jk (Jd (Kl U) U U U (Jd (Ks Tryz.underlying25 U) U U U (Jd (Jf U) U U U (Ja (hN4 _ _ (Jb [(1,.slice _ _ _),(2,.int _ _),(3,.int _ _),(9,.slice _ _ _),(12,.slice _ _ _),(13,.int _ _),(14,.int _ _)] ⟨U,U,U,U,U,U,U,O⟩ fun σ => Kn ?_))))))
 refine Xw strCells 9 1 ?_
 refine Mm [(2,.int _ _),(9,.slice _ _ _),(14,.int _ _)] [(1,.slice _ _ _),(3,.int _ _),(12,.slice _ _ _),(13,.int _ _)] ⟨U,U,U,O⟩ ⟨U,U,U,U,O⟩ fun σ => ?_
 refine Ml (G := Nat × Nat × Option Addr × Nat × List ByteArray) (fun (k,low,Av,cv,l) => k ≤ hs.length ∧ (∀ h : k < (pls hs).length,(low : Int) ≤ (pls hs)[k].at_) ∧ low ≤ text.length ∧ l.length ≤ 240 * k ∧ l ++ rawFrom low ((pls hs).drop k) text = rawFrom 0 (pls hs) text) (fun (k,low,Av,cv,l) => hs.length - k) (fun (k,low,Av,cv,l) => [(2,.int .i64 (low : Int)),(9,.slice Av l.length cv),(14,.int .i64 (k : Int))]) (fun (k,low,Av,cv,l) => [(0,rowl strCells w.heap.size 9 1 (.slice Av l.length cv) (l))]) ((0,0,none,0,[])) ?h0 ⟨U,U,U,O⟩ ⟨U,U,U,U,O⟩ U ?round
 case h0 => exact ⟨Nat.zero_le _,fun h => (v.at_ 0 h).lo,Nat.zero_le _,by simp,by simp⟩
 case round =>
  rintro ⟨k,low,Av,cv,l⟩ hφ σ
  obtain ⟨hk,hlow,hlt,hll,hraw⟩ := hφ
  refine gT [rowl _ _ _ _ _ _] U (Jg fun N5 hN5 => Jk (Jd (Me U U) U U U (Ja (hN5 _ _ (Jb [(1,.slice _ _ _),(2,.int _ _),(3,.int _ _),(9,.slice Av _ cv),(12,.slice _ _ _),(13,.int _ _),(14,.int _ _),(15,.bool _)] ⟨U,U,U,U,U,U,U,U,O⟩ fun σ => Jg fun N6 hN6 => ?_)))))
  refine Jt (b := _) U (fun hc15 => ?_) (fun hc15 => ?_)
  replace hc15 := odt hc15
  have hk1 : k < hs.length := by omega
  have hk2 : k < (pls hs).length := by simpa using hk1
  obtain ⟨ad,rfl,-,hcv⟩ := hp.rd.at_ hk1
  have hR := hp.each _ (List.getElem_mem hk1)
  have hlo := hlow hk2
  have hen := hends _ (List.getElem_mem hk2)
  have hB := v.hb k hk2
  rw [List.getElem_map] at hlo hen hB
  have hB1 := hB.lo
  have hB2 := hB.hi
  have hB3 := hB.old
  have hB4 := hB.new
  have hee : hs[k].pl.end_ = hs[k].pl.at_ + hs[k].pl.old.length := rfl
  refine Jw (hN6 _ _ (Jb [(1,.slice _ _ _),(2,.int _ _),(3,.int _ _),(9,.slice Av _ cv),(12,.slice _ _ _),(13,.int _ _),(14,.int _ _)] ⟨U,U,U,U,U,U,U,O⟩ fun σ => Jg fun N7 hN7 => Kn (Jg fun N8 hN8 => Jk (Jd (Jz Tryz.underlying25 Tryz.sizeOf92 U U U (by omega) (by omega)) U U U (Jd (Kk (cs := [_,_,_]) Tryz.isAgg92 Tryz.sizeOf92 U U (Mv hcv)) U U U ?_)))))
  refine Ka (cs := #[.int .i64 0,.slice none 0 0,.slice none 0 0]) Tryz.zeroValue92 U U (fun b11 hb11 => ?_)
  refine Jr 1 (v := .agg #[_,_,_]) (cs' := #[_,_,_]) U U Tryz.sizeOf92 U U U U (leb U) U U (Ja (hN8 _ _ (gT [rowl _ _ _ _ _ _,box b11 _] U (Jb [(1,.slice _ _ _),(2,.int _ _),(3,.int _ _),(9,.slice Av _ cv),(11,.pointer _),(12,.slice _ _ _),(13,.int _ _),(14,.int _ _)] ⟨U,U,U,U,U,U,U,U,O⟩ fun σ => Jg fun N9 hN9 => ?_))))
  refine Qr [] [(0,emp)] (by kernel_rfl) ?_
  refine Jv 0 (TK := [emp,box b11 _]) U (by kernel_rfl) (by kernel_rfl) (by kernel_rfl) #[false,true,true,true,true,true,false,true,true,false,false] (by kernel_rfl) U (Ju (v := .slice Av _ cv) U) U U U (Kw 0 U) (listed' := #[true,false,false,false,false,false,false,false,false,false,false]) U ?_
  refine Jv 1 (TK := [emp,box b11 _]) U (by kernel_rfl) (by kernel_rfl) (by kernel_rfl) #[true,false,true,true,true,false,false,true,true,false,false] (by kernel_rfl) U (Kl U) U U U (Kw 0 U) (listed' := #[true,true,false,false,false,false,false,false,false,false,false]) U ?_
  refine Jv 2 (TK := [emp,box b11 _]) U (by kernel_rfl) (by kernel_rfl) (by kernel_rfl) #[true,true,false,true,true,false,false,true,true,false,false] (by kernel_rfl) U (Jf U) U U U (Kw 0 U) (listed' := #[true,true,true,false,false,false,false,false,false,false,false]) U ?_
  refine Jv 3 (TK := [emp,box b11 _]) U (by kernel_rfl) (by kernel_rfl) (by kernel_rfl) #[true,true,true,false,false,false,false,true,true,false,false] (by kernel_rfl) U (Jc JJ U) U U U (Kw 0 U) (listed' := #[true,true,true,true,false,false,false,false,false,false,false]) U ?_
  refine Jv 4 (TK := [emp,box b11 _]) U (by kernel_rfl) (by kernel_rfl) (by kernel_rfl) #[true,true,true,true,false,false,false,true,true,false,false] (by kernel_rfl) U (Jq Tryz.isAgg3 U (Jm 1 U U)) U U U (Kw 0 U) (listed' := #[true,true,true,true,true,false,false,false,false,false,false]) U ?_
  refine Jv 5 (TK := [emp,box b11 _]) U (by kernel_rfl) (by kernel_rfl) (by kernel_rfl) #[true,true,true,true,true,false,false,true,true,false,false] (by kernel_rfl) U (y_slice Tryz.underlying22 Tryz.sizeOf9 U U U (by omega) (by omega) (by omega)) U U U (Kw 0 U) (listed' := #[true,true,true,true,true,true,false,false,false,false,false]) U ?_
  refine Jv 7 (TK := [emp,box b11 _]) U (by kernel_rfl) (by kernel_rfl) (by kernel_rfl) #[true,true,true,true,true,true,true,false,false,false,false] (by kernel_rfl) U (Jc fa92_2 U) U U U (Kw 0 U) (listed' := #[true,true,true,true,true,true,false,true,false,false,false]) U ?_
  refine Jv 8 (TK := [emp,box b11 _]) U (by kernel_rfl) (by kernel_rfl) (by kernel_rfl) #[true,true,true,true,true,true,true,true,false,false,false] (by kernel_rfl) U (Jq Tryz.isAgg22 U (Jm 1 U U)) U U U (Kw 0 U) (listed' := #[true,true,true,true,true,true,false,true,true,false,false]) U ?_
  refine Mr 6 (k' := 0) (listed' := #[true,true,true,true,true,true,true,true,true,false,false]) (by kernel_rfl) U U U ?_
  refine Qj 0 (f := strCells) (l2 := ((text.drop low).take (hs[k].pl.at_.toNat - low))) Tryz.underlying22 el9 Wl (v := .slice Av _ cv) U U U (by simp; omega) (cut_nil htb.nil) (by simp; omega) (by simp; omega) (fun w hM => ((ht.cut (i := low) (j := hs[k].pl.at_.toNat) (cap := d) (by omega) (by omega) htb.len).base hM).src (fun _ => U)) U (fun v24 => ?_)
  refine Ja ?_
  refine Mo (TK := [emp,box b11 _]) U (Kw 0 U) ?_
  refine Mr 9 (k' := 0) (listed' := #[true,true,true,true,true,true,true,true,true,true,false]) (by kernel_rfl) U U U ?_
  refine Qj 0 (f := strCells) (l2 := hs[k].pl.new) Tryz.underlying22 el9 Wl (v := v24) U U U U hR.nb.nil (by simp; omega) (by simp; omega) (fun w hM => (hR.new.base hM).src (fun _ => U)) U (fun v27 => ?_)
  refine Ky (fun w hM => Ug (hM.own 0 U)) ?_
  rintro ⟨A27,c27,rfl,hc27,hm27⟩
  refine Ja ?_
  refine Mo (TK := [emp,box b11 _]) U (Kw 0 U) ?_
  refine Jv 10 (TK := [emp,box b11 _]) U (by kernel_rfl) (by kernel_rfl) (by kernel_rfl) #[true,true,true,true,true,true,true,true,true,true,false] (by kernel_rfl) U (Kx (v := .slice A27 _ c27) U) U U U (Kw 0 U) (listed' := #[true,true,true,true,true,true,true,true,true,true,true]) U ?_
  refine Qd (by kernel_rfl) ?_
  refine hN9 _ _ (gT [rowl _ _ _ _ _ _,box b11 _] U (Jb [(1,.slice _ _ _),(3,.int _ _),(9,.slice A27 _ c27),(11,.pointer _),(12,.slice _ _ _),(13,.int _ _),(14,.int _ _)] ⟨U,U,U,U,U,U,U,O⟩ fun σ => Jk (Jd (Kk (cs := [_,_,_]) Tryz.isAgg92 Tryz.sizeOf92 U U (Kf 1 U)) U U U ?_)))
  refine Km (Kb (vs := [.agg #[_,_,_]]) Tryz.func63 U (by kernel_rfl) U) (fun w hM => end_any w hs[k] (by unfold In64 Hunk.end_; omega)) U U U ?_
  refine Jd (Jh U) U U U (Ja (hN7 _ _ (Jb [(1,.slice _ _ _),(2,.int _ _),(3,.int _ _),(9,.slice A27 _ c27),(12,.slice _ _ _),(13,.int _ _),(14,.int _ _)] ⟨U,U,U,U,U,U,U,O⟩ fun σ => Jk (Jd (Kr U U ⟨by omega,by omega⟩) U U U (Jd (Jf U) U U U (Ja ?_))))))
  refine Kt ((k + 1,hs[k].pl.at_.toNat + hs[k].pl.old.length,A27,c27,(l ++ ((text.drop low).take (hs[k].pl.at_.toNat - low))) ++ hs[k].pl.new)) (by show hs.length - (k + 1) < hs.length - k; omega) (⟨by show k + 1 ≤ _; omega,fun h => ?hp,by show hs[k].pl.at_.toNat + _ ≤ _; omega,by simp; omega,by rw [← hraw,rawFrom_drop hk2,List.getElem_map]; simp [List.append_assoc]⟩) ⟨(congrArg (Value.int .i64) (by unfold Hunk.end_; omega)),U,U,trivial⟩ ⟨U,U,U,U,O⟩ ⟨_,U⟩
  case hp =>
   have h2 := v.before (k + 1) h k hk2 (by omega)
   simp only [List.getElem_map] at h2 ⊢
   have h3 : hs[k].pl.end_ = hs[k].pl.at_ + hs[k].pl.old.length := rfl
   show ((hs[k].pl.at_.toNat + hs[k].pl.old.length : Nat) : Int) ≤ _
   omega
  replace hc15 := odf hc15
  have hfin : l ++ (text.drop low).take (text.length - low) = rawFrom 0 (pls hs) text := by rw [← hraw,show (pls hs).drop k = [] from List.drop_eq_nil_of_le (by simp; omega),rawFrom,List.take_of_length_le (by simp)]
  refine Mx ?_
  refine hN3 _ _ (Jb [(1,.slice _ _ _),(2,.int _ _),(3,.int _ _),(9,.slice Av _ cv)] ⟨U,U,U,U,O⟩ fun σ => Jg fun N10 hN10 => Jk (Jd (Ju (v := .slice Av _ cv) U) U U U (Jd (Kl U) U U U (Jd (Jf U) U U U (Jd (Jf U) U U U (Jd (y_slice Tryz.underlying22 Tryz.sizeOf9 U U U (by omega) (by omega) (by omega)) U U U ?_))))))
  refine Qj 0 (f := strCells) (l2 := ((text.drop low).take (text.length - low))) Tryz.underlying22 el9 Wl (v := .slice Av _ cv) U U U (by simp) (cut_nil htb.nil) (by simp; omega) (by simp; omega) (fun w hM => ((ht.cut (i := low) (j := text.length) (cap := d) (by omega) (by omega) htb.len).base hM).src (fun _ => U)) U (fun v36 => ?_)
  refine Jd (Kx (v := v36) U) U U U (Ja (hN10 _ _ (gT [rowl _ _ _ _ _ _] U (Jb [(8,v36)] ⟨U,O⟩ fun σ => ?_))))
  refine Ke fun w1 hM => ?_
  refine ⟨_,res1 rfl (rt (v := v36) rfl),?_⟩
  rw [hfin] at hM
  exact ⟨_,_,rfl,rfl,hM⟩
set_option maxHeartbeats 2000000 in
theorem apply_any (w : World) (A : Option Addr) (c : Nat) (hs : List HunkC) (hp : PatR w 0 A c hs) (B : Option Addr) (d : Nat) (text : List ByteArray) (ht : Rdl w 0 1 strCells B text) (htb : SB B text.length d 16) : Calls Tryz.prog 91 #[.agg #[.slice A hs.length c], .slice B text.length d] w fun e w' => ∃ v' T', e = .returned (.tuple #[v', fv (applyF (pls hs) text)]) ∧ T' = [rowl strCells w.heap.size 9 1 v' (applyR (pls hs) text)] ∧ Mem w T' w' := by
 have htc := htb.len
 have htm := htb.max
 have hmx : maxLen = 9223372036854775807 := rfl
 refine Kz Tryz.func91 U Tryz.ntmps91 (leb U) ?_
 refine Jb [(0,.agg #[_]),(1,.slice _ _ _)] ⟨U,U,O⟩ fun σ => Jg fun N1 hN1 => Jk ?_
 refine Mt (v := .agg #[_]) (cs := #[_]) U U U (fun b2 hb2 => ?_)
 refine Jd (Kq U) U U U ?_
 refine Ka (cs := #[.int .i64 0,.int .i64 0]) Tryz.zeroValue33 U U (fun b5 hb5 => ?_)
 refine Ja (hN1 _ _ (gT [box b2 _,box b5 _] U (Jb [(1,.slice _ _ _),(2,.pointer _),(5,.pointer _)] ⟨U,U,U,O⟩ fun σ => Jg fun N2 hN2 => Jg fun N3 hN3 => Jk (Jd (Kk (cs := [_]) Tryz.isAgg27 Tryz.sizeOf27 U U (Kf 0 U)) U U U ?_))))
 refine Km (Kb (vs := [.agg #[_]]) Tryz.func62 U (by kernel_rfl) U) (fun w hM => Wq w _ _ _ (PatR.lasts.base hp hM)) U U U ?_
 refine Ka (cs := #[.int .i64 0,.int .i64 0]) Tryz.zeroValue33 U U (fun b6 hb6 => ?_)
 refine Jr 2 (v := .agg #[_,_]) (cs' := #[_,_]) U U Tryz.sizeOf33 U U U U (leb U) U U (Ja (hN3 _ _ (gT [box b2 _,box b5 _,box b6 _] U (Jb [(1,.slice _ _ _),(2,.pointer _),(5,.pointer _),(6,.pointer _)] ⟨U,U,U,U,O⟩ fun σ => Jg fun N4 hN4 => Jk (Jd (Kk (cs := [_,_]) Tryz.isAgg33 Tryz.sizeOf33 U U (Kf 2 U)) U U U (Jd (Kd (vs := []) (cells := #[.int .i64 0,.int .i64 0]) U Qh) U U U (Jd (Uk (vx := .agg #[_,_]) (vy := .agg #[_,_]) U U (fun w => eg33 _ _ _ _ _ w) (fun w => ne33 _ _ _ _ w)) U U U (Ja ?_))))))))
 refine hN4 _ _ (Jb [(1,.slice _ _ _),(2,.pointer _),(5,.pointer _),(6,.pointer _),(15,.bool _)] ⟨U,U,U,U,U,O⟩ fun σ => ?_)
 refine Jt (b := _) U (fun hc15 => ?_) (fun hc15 => ?_)
 replace hc15 := Qe.1 hc15
 have hF : applyF (pls hs) text = patchF (pls hs) := by rw [applyF,if_pos hc15]
 refine Jg fun N5 hN5 => ?_
 refine Qr [] [(1,room b5 33 2)] (by kernel_rfl) ?_
 refine Jv 0 (TK := [box b2 _,room b5 33 2,box b6 _]) U (by kernel_rfl) (by kernel_rfl) (by kernel_rfl) #[false,true,false] (by kernel_rfl) U (Kk (cs := [_,_]) Tryz.isAgg33 Tryz.sizeOf33 U U (Kf 2 U)) U U U (Kj 1 U U) (listed' := #[true,false,false]) U ?_
 refine Jv 1 (TK := [box b2 _,room b5 33 2,box b6 _]) U (by kernel_rfl) (by kernel_rfl) (by kernel_rfl) #[true,false,false] (by kernel_rfl) U (Kq U) U U U (Kj 1 U U) (listed' := #[true,true,false]) U ?_
 refine Mr 2 (k' := 0) (listed' := #[true,true,true]) (by kernel_rfl) U U U ?_
 refine Jr 1 (v := .agg #[_,_]) (cs' := #[_,_]) U U Tryz.sizeOf33 U U U U (leb U) U U (Ja ?_)
 refine Mo (TK := [box b2 _,room b5 33 2,box b6 _]) U (Kj 1 U U) ?_
 refine Qd (by kernel_rfl) ?_
 refine hN5 _ _ (gT [box b2 _,box b5 _,box b6 _] U (Jb [(4,.slice _ _ _),(5,.pointer _)] ⟨U,U,O⟩ fun σ => ?_))
 refine Ke fun w1 hM => ?_
 refine ⟨_,res2 rfl (rt (v := .slice _ _ _) rfl) (rc 1 (cs := [_,_]) hM rfl rfl Tryz.isAgg33 Tryz.sizeOf33 rfl),?_⟩
 exact ⟨.slice none 0 0,[rowl strCells w.heap.size 9 1 (.slice none 0 0) []],by rw [hF],by rw [applyR,hF,if_neg (by first | assumption | simp)],(Qa strCells _ 1 hM).dropTo 3 rfl⟩
 replace hc15 := Qf.1 hc15
 have hv := patchF_ok.1 hc15
 have hvl : hs.length ≤ 130 := by simpa using hv.len
 refine Jw (hN2 _ _ (Jb [(1,.slice _ _ _),(2,.pointer _),(5,.pointer _)] ⟨U,U,U,O⟩ fun σ => Jg fun N6 hN6 => Jg fun N7 hN7 => Jk (Jd (Kl U) U U U ?_)))
 refine Km (Kb (vs := [.slice _ _ _,_]) Tryz.func28 U (by kernel_rfl) U) (fun w hM => Wf w _ _ _ (ht.base hM) (by omega) (-2)) U U U ?_
 refine Ka (cs := #[.int .i64 0,.int .i64 0]) Tryz.zeroValue33 U U (fun b7 hb7 => ?_)
 refine Jr 3 (v := .agg #[_,_]) (cs' := #[_,_]) U U Tryz.sizeOf33 U U U U (leb U) U U (Ja (hN7 _ _ (gT [box b2 _,box b5 _,box b6 _,box b7 _] U (Jb [(1,.slice _ _ _),(2,.pointer _),(5,.pointer _),(7,.pointer _)] ⟨U,U,U,U,O⟩ fun σ => Jg fun N8 hN8 => Jk (Jd (Kk (cs := [_,_]) Tryz.isAgg33 Tryz.sizeOf33 U U (Kf 3 U)) U U U (Jd (Kd (vs := []) (cells := #[.int .i64 0,.int .i64 0]) U Qh) U U U (Jd (Uk (vx := .agg #[_,_]) (vy := .agg #[_,_]) U U (fun w => eg33 _ _ _ _ _ w) (fun w => ne33 _ _ _ _ w)) U U U (Ja ?_))))))))
 refine hN8 _ _ (Jb [(1,.slice _ _ _),(2,.pointer _),(5,.pointer _),(7,.pointer _),(21,.bool _)] ⟨U,U,U,U,U,O⟩ fun σ => ?_)
 refine Jt (b := _) U (fun hc21 => ?_) (fun hc21 => ?_)
 replace hc21 := Qe.1 hc21
 have hF : applyF (pls hs) text = secondF (linesF text) (-2) := by rw [applyF,if_neg (by simp [hc15]),if_pos hc21]
 refine Jg fun N9 hN9 => ?_
 refine Qr [] [(1,room b5 33 2)] (by kernel_rfl) ?_
 refine Jv 0 (TK := [box b2 _,room b5 33 2,box b6 _,box b7 _]) U (by kernel_rfl) (by kernel_rfl) (by kernel_rfl) #[false,true,false] (by kernel_rfl) U (Kk (cs := [_,_]) Tryz.isAgg33 Tryz.sizeOf33 U U (Kf 3 U)) U U U (Kj 1 U U) (listed' := #[true,false,false]) U ?_
 refine Jv 1 (TK := [box b2 _,room b5 33 2,box b6 _,box b7 _]) U (by kernel_rfl) (by kernel_rfl) (by kernel_rfl) #[true,false,false] (by kernel_rfl) U (Kq U) U U U (Kj 1 U U) (listed' := #[true,true,false]) U ?_
 refine Mr 2 (k' := 0) (listed' := #[true,true,true]) (by kernel_rfl) U U U ?_
 refine Jr 1 (v := .agg #[_,_]) (cs' := #[_,_]) U U Tryz.sizeOf33 U U U U (leb U) U U (Ja ?_)
 refine Mo (TK := [box b2 _,room b5 33 2,box b6 _,box b7 _]) U (Kj 1 U U) ?_
 refine Qd (by kernel_rfl) ?_
 refine hN9 _ _ (gT [box b2 _,box b5 _,box b6 _,box b7 _] U (Jb [(4,.slice _ _ _),(5,.pointer _)] ⟨U,U,O⟩ fun σ => ?_))
 refine Ke fun w1 hM => ?_
 refine ⟨_,res2 rfl (rt (v := .slice _ _ _) rfl) (rc 1 (cs := [_,_]) hM rfl rfl Tryz.isAgg33 Tryz.sizeOf33 rfl),?_⟩
 exact ⟨.slice none 0 0,[rowl strCells w.heap.size 9 1 (.slice none 0 0) []],by rw [hF],by rw [applyR,hF,if_neg (by first | assumption | simp)],(Qa strCells _ 1 hM).dropTo 4 rfl⟩
 replace hc21 := Qf.1 hc21
 have htl := Qu (Yu hc21)
 refine Jw (hN6 _ _ (Jb [(1,.slice _ _ _),(2,.pointer _),(5,.pointer _)] ⟨U,U,U,O⟩ fun σ => Jg fun N10 hN10 => Jg fun N11 hN11 => Jk (Jd (Jc Qg U) U U U (Jd (Jq Tryz.isAgg25 U (Jm 0 U U)) U U U (Jd (Ks Tryz.underlying25 U) U U U (Jd (Jf U) U U U (Ja (hN11 _ _ ?_))))))))
 refine Jb [(1,.slice _ _ _),(2,.pointer _),(5,.pointer _),(24,.slice _ _ _),(25,.int _ _),(26,.int _ _)] ⟨U,U,U,U,U,U,O⟩ fun σ => Kn ?_
 refine Mm [(26,.int _ _)] [(1,.slice _ _ _),(2,.pointer _),(5,.pointer _),(24,.slice _ _ _),(25,.int _ _)] ⟨U,O⟩ ⟨U,U,U,U,U,O⟩ fun σ => ?_
 refine Ml (G := Nat) (fun k => k ≤ hs.length ∧ ∀ j (h : j < (pls hs).length),j < k → (if occ text (pls hs)[j].old (pls hs)[j].at_ = true then (0 : Int) else 19) = 0) (fun k => hs.length - k) (fun k => [(26,.int .i64 (k : Int))]) (fun k => []) (0) ?h0 ⟨U,O⟩ ⟨U,U,U,U,U,O⟩ U ?round
 case h0 => exact ⟨Nat.zero_le _,fun _ _ h => absurd h (by omega)⟩
 case round =>
  intro k hφ σ
  obtain ⟨hk,hz⟩ := hφ
  refine Jg fun N12 hN12 => Jk (Jd (Me U U) U U U (Ja (hN12 _ _ (Jb [(1,.slice _ _ _),(2,.pointer _),(5,.pointer _),(24,.slice _ _ _),(25,.int _ _),(26,.int _ _),(27,.bool _)] ⟨U,U,U,U,U,U,U,O⟩ fun σ => Jg fun N13 hN13 => ?_))))
  refine Jt (b := _) U (fun hc27 => ?_) (fun hc27 => ?_)
  replace hc27 := odt hc27
  have hk1 : k < hs.length := by omega
  have hk2 : k < (pls hs).length := by simpa using hk1
  obtain ⟨ad,rfl,-,hcv⟩ := hp.rd.at_ hk1
  have hR := hp.each _ (List.getElem_mem hk1)
  refine Jw (hN13 _ _ (Jb [(1,.slice _ _ _),(2,.pointer _),(5,.pointer _),(24,.slice _ _ _),(25,.int _ _),(26,.int _ _)] ⟨U,U,U,U,U,U,O⟩ fun σ => Jg fun N14 hN14 => Kn (Jg fun N15 hN15 => Jk (Jd (Jf U) U U U (Jd (Jz Tryz.underlying25 Tryz.sizeOf92 U U U (by omega) (by omega)) U U U (Jd (Kk (cs := [_,_,_]) Tryz.isAgg92 Tryz.sizeOf92 U U (Mv hcv)) U U U ?_))))))
  refine Ka (cs := #[.int .i64 0,.slice none 0 0,.slice none 0 0]) Tryz.zeroValue92 U U (fun b9 hb9 => ?_)
  refine Jd (Jh U) U U U (Jr 4 (v := .agg #[_,_,_]) (cs' := #[_,_,_]) U U Tryz.sizeOf92 U U U U (leb U) U U (Ja (hN15 _ _ (gT [box b2 _,box b5 _,box b6 _,box b7 _,box b9 _] U (Jb [(1,.slice _ _ _),(2,.pointer _),(5,.pointer _),(8,.int _ _),(9,.pointer _),(24,.slice _ _ _),(25,.int _ _),(26,.int _ _)] ⟨U,U,U,U,U,U,U,U,O⟩ fun σ => Jg fun N16 hN16 => Jk (Jd (Kl U) U U U (Jd (Jc fa92_1 U) U U U (Jd (Jq Tryz.isAgg22 U (Jm 4 U U)) U U U ?_))))))))
  refine Jd (Jc JJ U) U U U (Jd (Jq Tryz.isAgg3 U (Jm 4 U U)) U U U ?_)
  refine Km (Kb (vs := [.slice _ _ _,.slice _ _ _,.int _ _]) Tryz.func114 U (by kernel_rfl) U) (fun w hM => occurs_any w _ _ text (ht.base hM) htb.len htb.max _ _ _ (hR.old.base hM) (Nat.le_trans hR.ob.len hR.ob.max) _) U U U ?_
  refine Jd (Mp U) U U U (Ja (hN16 _ _ (Jb [(1,.slice _ _ _),(2,.pointer _),(5,.pointer _),(8,.int _ _),(24,.slice _ _ _),(25,.int _ _),(26,.int _ _),(37,.bool _)] ⟨U,U,U,U,U,U,U,U,O⟩ fun σ => ?_)))
  refine Jt (b := _) U (fun hc37 => ?_) (fun hc37 => ?_)
  replace hc37 := Ub hc37
  have hS : scan (fun _ h => if occ text h.old h.at_ = true then 0 else 19) (pls hs) = ⟨19,k⟩ := by rw [Uf hk2 hz (by rw [List.getElem_map,if_neg (by simp [hc37])]; decide),List.getElem_map,if_neg (by simp [hc37])]
  have hF : applyF (pls hs) text = ⟨19,k⟩ := by rw [applyF,if_neg (by simp [hc15]),if_neg (by simp [hc21]),if_pos (by rw [hS]; simp),hS]
  refine Jg fun N17 hN17 => Jk (Jd (Jf U) U U U (Jd (Kd (vs := [(0,_),(1,.int _ _)]) (cells := #[_,_]) U (Ma _ _)) U U U (Jd (Kq U) U U U (Jr 1 (v := .agg #[_,_]) (cs' := #[_,_]) U U Tryz.sizeOf33 U U U U (leb U) U U (Ja (hN17 _ _ (gT [box b2 _,box b5 _,box b6 _,box b7 _,box b9 _] U (Jb [(4,.slice _ _ _),(5,.pointer _)] ⟨U,U,O⟩ fun σ => ?_))))))))
  refine Ke fun w1 hM => ?_
  refine ⟨_,res2 rfl (rt (v := .slice _ _ _) rfl) (rc 1 (cs := [_,_]) hM rfl rfl Tryz.isAgg33 Tryz.sizeOf33 rfl),?_⟩
  exact ⟨.slice none 0 0,[rowl strCells w.heap.size 9 1 (.slice none 0 0) []],by rw [hF],by rw [applyR,hF,if_neg (by first | assumption | simp)],(Qa strCells _ 1 hM).dropTo 5 rfl⟩
  replace hc37 := Ue hc37
  refine Jw (hN14 _ _ (Jb [(1,.slice _ _ _),(2,.pointer _),(5,.pointer _),(24,.slice _ _ _),(25,.int _ _),(26,.int _ _)] ⟨U,U,U,U,U,U,O⟩ fun σ => Jk (Jd (Kr U U ⟨by omega,by omega⟩) U U U (Jd (Jf U) U U U (Ja ?_)))))
  refine Kt (k + 1) (by omega) (⟨by omega,fun j h hj => by rcases Nat.lt_succ_iff_lt_or_eq.1 hj with h1 | rfl; exact hz j h h1; rw [List.getElem_map,if_pos hc37]⟩) ⟨U,O⟩ ⟨U,U,U,U,U,O⟩ ⟨_,U⟩
  replace hc27 := odf hc27
  have hS : scan (fun _ h => if occ text h.old h.at_ = true then 0 else 19) (pls hs) = ⟨0,0⟩ := Qy fun j hj => hz j hj (by simp at hj; omega)
  have hends : ∀ h ∈ pls hs,h.end_ ≤ text.length := fun h hh => by
    obtain ⟨j,hj,rfl⟩ := List.getElem_of_mem hh
    have h1 := hz j hj (by simp at hj; omega)
    by_cases h2 : occ text (pls hs)[j].old (pls hs)[j].at_ = true
    · exact (occ_end h2).2
    · rw [if_neg h2] at h1; cases h1
  have hF0 : applyF (pls hs) text = if 120 < (rawFrom 0 (pls hs) text).length then ⟨10,-1⟩ else ⟨0,0⟩ := by rw [applyF,if_neg (by simp [hc15]),if_neg (by simp [hc21]),if_neg (by rw [hS]; simp)]
  refine Mx ?_
  refine hN10 _ _ (Jb [(1,.slice _ _ _),(2,.pointer _),(5,.pointer _)] ⟨U,U,U,O⟩ fun σ => Jg fun N18 hN18 => Jk (Jd (Jc Qg U) U U U (Jd (Jq Tryz.isAgg25 U (Jm 0 U U)) U U U (Jd (Kl U) U U U (Jd (Kl U) U U U (Jd (Ks Tryz.underlying22 U) U U U ?_))))))
  refine My (fun v T' => ∃ lo,w.heap.size ≤ lo ∧ T' = [rowl strCells lo 9 1 v (rawFrom 0 (pls hs) text)]) (Kb (vs := [.slice _ _ _,.slice _ _ _,_,.int _ _]) Tryz.func115 U (by kernel_rfl) U) (fun w hM => (raw_any w _ _ hs (PatR.lasts.base hp hM) _ _ text (ht.base hM) htb hv htl hends).mono fun _ _ ⟨v,T1,h1,h2,h3⟩ => ⟨v,T1,h1,⟨_,hM.low.size,h2⟩,h3⟩) U U U ?_
  rintro v46 _ ⟨lo46,hlo46,rfl⟩
  refine Ky (fun w hM => Mz (hM.ok _ (List.mem_of_getElem? (i := 4) U))) ?_
  rintro ⟨A46,c46,rfl,hc46,hm46,hn46⟩
  refine Jd (Kx (v := .slice A46 _ c46) U) U U U (Ja (hN18 _ _ (gT [box b2 _,box b5 _,box b6 _,box b7 _,rowl _ _ _ _ _ _] U (Jb [(5,.pointer _),(10,.slice A46 _ c46)] ⟨U,U,O⟩ fun σ => Jg fun N19 hN19 => Jg fun N20 hN20 => Jk (Jd (Ju (v := .slice A46 _ c46) U) U U U (Jd (Ks Tryz.underlying22 U) U U U (Jd (Mh U U) U U U (Ja ?_))))))))
  refine hN20 _ _ (Jb [(5,.pointer _),(10,.slice A46 _ c46),(49,.bool _)] ⟨U,U,U,O⟩ fun σ => ?_)
  refine Jt (b := _) U (fun hc49 => ?_) (fun hc49 => ?_)
  replace hc49 := odt hc49
  have hF : applyF (pls hs) text = ⟨10,-1⟩ := by rw [hF0,if_pos (by omega)]
  refine Jg fun N21 hN21 => Jk (Jd (Kd (vs := [(0,_),(1,_)]) (cells := #[_,_]) U (Ma _ _)) U U U (Jd (Kq U) U U U (Jr 1 (v := .agg #[_,_]) (cs' := #[_,_]) U U Tryz.sizeOf33 U U U U (leb U) U U (Ja (hN21 _ _ (gT [box b2 _,box b5 _,box b6 _,box b7 _,rowl _ _ _ _ _ _] U (Jb [(4,.slice _ _ _),(5,.pointer _)] ⟨U,U,O⟩ fun σ => ?_)))))))
  refine Ke fun w1 hM => ?_
  refine ⟨_,res2 rfl (rt (v := .slice _ _ _) rfl) (rc 1 (cs := [_,_]) hM rfl rfl Tryz.isAgg33 Tryz.sizeOf33 rfl),?_⟩
  exact ⟨.slice none 0 0,[rowl strCells w.heap.size 9 1 (.slice none 0 0) []],by rw [hF],by rw [applyR,hF,if_neg (by first | assumption | simp)],(Qa strCells _ 1 hM).dropTo 5 rfl⟩
  replace hc49 := odf hc49
  have hF : applyF (pls hs) text = ⟨0,0⟩ := by rw [hF0,if_neg (by omega)]
  refine Jw (hN19 _ _ (Jb [(5,.pointer _),(10,.slice A46 _ c46)] ⟨U,U,O⟩ fun σ => Jg fun N22 hN22 => Jk (Jd (Ju (v := .slice A46 _ c46) U) U U U (Jd (Kd (vs := []) (cells := #[.int .i64 0,.int .i64 0]) U Qh) U U U (Jd (Kx (v := .slice A46 _ c46) U) U U U (Jr 1 (v := .agg #[_,_]) (cs' := #[_,_]) U U Tryz.sizeOf33 U U U U (leb U) U U (Ja (hN22 _ _ ?_))))))))
  refine gT [box b2 _,box b5 _,box b6 _,box b7 _,rowl _ _ _ _ _ _] U (Jb [(4,.slice A46 _ c46),(5,.pointer _)] ⟨U,U,O⟩ fun σ => ?_)
  refine Ke fun w1 hM => ?_
  refine ⟨_,res2 rfl (rt (v := .slice A46 _ c46) rfl) (rc 1 (cs := [_,_]) hM rfl rfl Tryz.isAgg33 Tryz.sizeOf33 rfl),?_⟩
  exact ⟨_,[rowl strCells w.heap.size 9 1 _ (rawFrom 0 (pls hs) text)],by rw [hF],by rw [applyR,if_pos hF],(Wg 4 rfl hlo46 _ hM).dropTo 4 rfl⟩
end Go.Proofs.YtbkameioedmlkaaGreatDoor
namespace Go.Proofs.YtbkameioedmlkaaGreatDoor
open Go.RowKit Go.Cf
set_option maxRecDepth 10000
theorem JK (a : Addr) (w : World) : (Instr.fieldAt 29 (.pointer (some a)) 0).run Tryz.prog w = .ok (.pointer (some (a.add 0))) w := by kernel_rfl
theorem fa29_2 (a : Addr) (w : World) : (Instr.fieldAt 29 (.pointer (some a)) 2).run Tryz.prog w = .ok (.pointer (some (a.add 2))) w := by kernel_rfl
theorem fa29_3 (a : Addr) (w : World) : (Instr.fieldAt 29 (.pointer (some a)) 3).run Tryz.prog w = .ok (.pointer (some (a.add 3))) w := by kernel_rfl
theorem Yh (a : Addr) (w : World) : (Instr.fieldAt 29 (.pointer (some a)) 4).run Tryz.prog w = .ok (.pointer (some (a.add 4))) w := by kernel_rfl
theorem Up (a : Addr) (w : World) : (Instr.fieldAt 29 (.pointer (some a)) 5).run Tryz.prog w = .ok (.pointer (some (a.add 5))) w := by kernel_rfl
theorem fa29_1 (a : Addr) (w : World) : (Instr.fieldAt 29 (.pointer (some a)) 1).run Tryz.prog w = .ok (.pointer (some (a.add 1))) w := by kernel_rfl
theorem fd33_0 (x0 x1 : Value) (w : World) : (Instr.field 33 (.agg #[x0, x1]) 0).run Tryz.prog w = .ok x0 w := by kernel_rfl
theorem Yg (a : Addr) (w : World) : (Instr.fieldAt 98 (.pointer (some a)) 1).run Tryz.prog w = .ok (.pointer (some (a.add 1))) w := by kernel_rfl
set_option maxHeartbeats 4000000 in
theorem form_any (w : World) (x : EvC) : Calls Tryz.prog 59 #[evV x] w fun e w' => e = .returned (.int .i64 (formC x.pl)) ∧ Below w.heap.size w w' := by
 refine Kz Tryz.func59 U Tryz.ntmps59 (leb U) ?_
 refine Jb [(0,.agg #[_,_,_,_,_,_])] ⟨U,O⟩ fun σ => Jg fun N1 hN1 => Jk ?_
 refine Mt (v := .agg #[_,_,_,_,_,_]) (cs := #[_,_,_,_,_,_]) U U U (fun b1 hb1 => ?_)
 refine Jd (Jh U) U U U (Ja (hN1 _ _ (gT [box b1 _] U (Jb [(1,.pointer _)] ⟨U,O⟩ fun σ => Jg fun N2 hN2 => Jg fun N3 hN3 => Jk (Jd (Jc JK U) U U U (Jd (Jq Tryz.isAgg3 U (Jm 0 U U)) U U U (Jd (Me U U) U U U (Jd (Jn U) U U U ?_))))))))
 refine Kh (want := false) U U U U U U (fun hg10 => ?_) (fun hg10 => ?_)
 have hg10d := odf hg10
 refine Jd (Je (Jc JK U)) U U U (Js U U U U hg10 (Jd (Je (Jq Tryz.isAgg3 U (Jm 0 U U))) U U U (Js U U U U hg10 (Jd (Je (Mh U U)) U U U (Jd (Jp U hg10 U) U U U (Ja (hN3 _ _ (Jb [(1,.pointer _),(14,.bool _)] ⟨U,U,O⟩ fun σ => ?_))))))))
 refine Jt (b := _) U (fun hc14 => ?_) (fun hc14 => ?_)
 replace hc14 := odt hc14
 refine Jg fun N4 hN4 => Jk (Jd (Jh U) U U U (Ja (hN4 _ _ (Jb [(2,.int _ _)] ⟨U,O⟩ fun σ => ?_))))
 refine Ke fun w1 hM => ?_
 refine ⟨_,res1 rfl (rt (v := .int _ _) rfl),?_⟩
 exact ⟨by rw [formC,if_pos (show x.kind < 1 ∨ 4 < x.kind by omega)],hM.low⟩
 replace hc14 := odf hc14
 have hK : ¬ (x.kind < 1 ∨ 4 < x.kind) := by omega
 refine Jw (hN2 _ _ (Jb [(1,.pointer _)] ⟨U,O⟩ fun σ => Jg fun N5 hN5 => ?_))
 refine Qx (by kernel_rfl) (by kernel_rfl) ?_
 refine gq (Jc JK U) U U U (gq (Jq Tryz.isAgg3 U (Jm 0 U U)) U U U (gq (Mc U U) U U U (gq (Jc JK U) U U U (gq (Jq Tryz.isAgg3 U (Jm 0 U U)) U U U (gq (Mc U U) U U U (gq (Jc JK U) U U U (gq (Jq Tryz.isAgg3 U (Jm 0 U U)) U U U (gq (Mc U U) U U U ?_))))))))
 refine gq (Jc JK U) U U U (gq (Jq Tryz.isAgg3 U (Jm 0 U U)) U U U (gq (Mc U U) U U U (gq (Ji U) U U U (gq (Ji U) U U U (gq (Ji U) U U U (gq (Ji U) U U U ?_))))))
 refine Mn ?_
 refine hN5 _ _ (Jb [(1,.pointer _),(3,.bool _),(4,.bool _),(5,.bool _),(6,.bool _)] ⟨U,U,U,U,U,O⟩ fun σ => Jg fun N6 hN6 => Kn (Jg fun N7 hN7 => Jb [(1,.pointer _),(3,.bool _),(4,.bool _),(5,.bool _),(6,.bool _)] ⟨U,U,U,U,U,O⟩ fun σ => ?_))
 refine gcut3 (Lf := [(1,.pointer _),(3,.bool _),(4,.bool _)]) (G := Unit) (fun g => True) (fun g => [(27,.bool (badE x.pl))]) (fun g => []) ⟨U,U,U,O⟩ ?_ ?_
 refine Jg fun N8 hN8 => Jk (Jd (Jc fa29_2 U) U U U (Jd (Jq Tryz.isAgg3 U (Jm 0 U U)) U U U (Jd (Uj U U) U U U (Jd (Jn U) U U U ?_))))
 refine Kh (want := true) U U U U U U (fun hg31 => ?_) (fun hg31 => ?_)
 have hg31d := odt hg31
 refine Jd (Je (Jn U)) U U U (Js U U U U hg31 (Jd (Je (Mp U)) U U U (Jd (Jo U hg31 U) U U U (Jd (Jn U) U U U ?_))))
 refine Kh (want := true) U U U U U U (fun hg35 => ?_) (fun hg35 => ?_)
 have hg35d := Ub hg35
 refine Jd (Je (Jn U)) U U U (Js U U U U hg35 (Jd (Je (Mp U)) U U U (Jd (Jo U hg35 U) U U U (Jd (Ji U) U U U (Ja (hN8 _ _ (Jb [(1,.pointer _),(3,.bool _),(4,.bool _),(6,.bool _),(27,.bool _)] ⟨U,U,U,U,U,O⟩ fun σ => ?_)))))))
 refine Jt (b := _) U (fun hc27 => ?_) (fun hc27 => ?_)
 have hb := hc27
 refine Jw ?_
 refine Ki (()) (trivial) ⟨(congrArg Value.bool (by first | (simp_all [badE,isEmptyS]; done) | (simp_all [badE,isEmptyS]; omega))),trivial⟩ ⟨U,U,U,O⟩ ⟨_,U⟩
 have hb : ¬ _ := Bool.eq_false_iff.1 hc27
 refine Jg fun N9 hN9 => Jk (Jd (Jc fa29_3 U) U U U (Jd (Jq Tryz.isAgg3 U (Jm 0 U U)) U U U (Jd (Uj U U) U U U (Jd (Jn U) U U U ?_))))
 refine Kh (want := true) U U U U U U (fun hg42 => ?_) (fun hg42 => ?_)
 have hg42d := odt hg42
 refine Jd (Je (Jn U)) U U U (Js U U U U hg42 (Jd (Je (Mp U)) U U U (Jd (Jo U hg42 U) U U U (Jd (Ji U) U U U (Ja (hN9 _ _ (Jb [(1,.pointer _),(3,.bool _),(4,.bool _),(6,.bool _),(27,.bool _)] ⟨U,U,U,U,U,O⟩ fun σ => ?_)))))))
 refine Jt (b := _) U (fun hc27 => ?_) (fun hc27 => ?_)
 have hb := hc27
 refine Jw ?_
 refine Ki (()) (trivial) ⟨(congrArg Value.bool (by first | (simp_all [badE,isEmptyS]; done) | (simp_all [badE,isEmptyS]; omega))),trivial⟩ ⟨U,U,U,O⟩ ⟨_,U⟩
 have hb : ¬ _ := Bool.eq_false_iff.1 hc27
 refine Jg fun N10 hN10 => Jk (Jd (Jc Yh U) U U U (Jd (Jq Tryz.isAgg9 U (Jm 0 U U)) U U U (Jd (Yd U U) U U U (Jd (Jn U) U U U ?_))))
 refine Kh (want := true) U U U U U U (fun hg49 => ?_) (fun hg49 => ?_)
 have hg49d := hg49
 refine Jd (Je (Jn U)) U U U (Js U U U U hg49 (Jd (Je (Mp U)) U U U (Jd (Jo U hg49 U) U U U (Jd (Jn U) U U U ?_))))
 refine Kh (want := true) U U U U U U (fun hg53 => ?_) (fun hg53 => ?_)
 have hg53d := Ub hg53
 refine Jd (Je (Jn U)) U U U (Js U U U U hg53 (Jd (Je (Mp U)) U U U (Jd (Jo U hg53 U) U U U (Jd (Ji U) U U U (Ja (hN10 _ _ (Jb [(1,.pointer _),(3,.bool _),(4,.bool _),(6,.bool _),(27,.bool _)] ⟨U,U,U,U,U,O⟩ fun σ => ?_)))))))
 refine Jt (b := _) U (fun hc27 => ?_) (fun hc27 => ?_)
 have hb := hc27
 refine Jw ?_
 refine Ki (()) (trivial) ⟨(congrArg Value.bool (by first | (simp_all [badE,isEmptyS]; done) | (simp_all [badE,isEmptyS]; omega))),trivial⟩ ⟨U,U,U,O⟩ ⟨_,U⟩
 have hb : ¬ _ := Bool.eq_false_iff.1 hc27
 refine Jk (Jd (Jc Up U) U U U (Jd (Jc Qg U) U U U (Jd (Jq Tryz.isAgg25 U (Jm 0 U U)) U U U (Jd (Ks Tryz.underlying25 U) U U U (Jd (Mh U U) U U U (Jd (Jn U) U U U ?_))))))
 refine Kh (want := true) U U U U U U (fun hg62 => ?_) (fun hg62 => ?_)
 have hg62d := odt hg62
 refine Jd (Je (Jn U)) U U U (Js U U U U hg62 (Jd (Je (Mp U)) U U U (Jd (Jo U hg62 U) U U U (Jd (Ji U) U U U (Ja ?_)))))
 refine Ki (()) (trivial) ⟨(congrArg Value.bool (by first | (simp_all [badE,isEmptyS]; done) | (simp_all [badE,isEmptyS]; omega))),trivial⟩ ⟨U,U,U,O⟩ ⟨_,U⟩
 have hg62d := odf hg62
 refine Jj U U U U hg62 U U (Jd (Jp U hg62 U) U U U (Jd (Ji U) U U U (Ja ?_)))
 refine Ki (()) (trivial) ⟨(congrArg Value.bool (by first | (simp_all [badE,isEmptyS]; done) | (simp_all [badE,isEmptyS]; omega))),trivial⟩ ⟨U,U,U,O⟩ ⟨_,U⟩
 have hg53d := Ue hg53
 refine Jj U U U U hg53 U U (Jd (Jp U hg53 U) U U U (Jd (Ji U) U U U (Ja (hN10 _ _ (Jb [(1,.pointer _),(3,.bool _),(4,.bool _),(6,.bool _),(27,.bool _)] ⟨U,U,U,U,U,O⟩ fun σ => ?_)))))
 refine Jt (b := _) U (fun hc27 => ?_) (fun hc27 => ?_)
 have hb := hc27
 refine Jw ?_
 refine Ki (()) (trivial) ⟨(congrArg Value.bool (by first | (simp_all [badE,isEmptyS]; done) | (simp_all [badE,isEmptyS]; omega))),trivial⟩ ⟨U,U,U,O⟩ ⟨_,U⟩
 have hb : ¬ _ := Bool.eq_false_iff.1 hc27
 refine Jk (Jd (Jc Up U) U U U (Jd (Jc Qg U) U U U (Jd (Jq Tryz.isAgg25 U (Jm 0 U U)) U U U (Jd (Ks Tryz.underlying25 U) U U U (Jd (Mh U U) U U U (Jd (Jn U) U U U ?_))))))
 refine Kh (want := true) U U U U U U (fun hg62 => ?_) (fun hg62 => ?_)
 have hg62d := odt hg62
 refine Jd (Je (Jn U)) U U U (Js U U U U hg62 (Jd (Je (Mp U)) U U U (Jd (Jo U hg62 U) U U U (Jd (Ji U) U U U (Ja ?_)))))
 refine Ki (()) (trivial) ⟨(congrArg Value.bool (by first | (simp_all [badE,isEmptyS]; done) | (simp_all [badE,isEmptyS]; omega))),trivial⟩ ⟨U,U,U,O⟩ ⟨_,U⟩
 have hg62d := odf hg62
 refine Jj U U U U hg62 U U (Jd (Jp U hg62 U) U U U (Jd (Ji U) U U U (Ja ?_)))
 refine Ki (()) (trivial) ⟨(congrArg Value.bool (by first | (simp_all [badE,isEmptyS]; done) | (simp_all [badE,isEmptyS]; omega))),trivial⟩ ⟨U,U,U,O⟩ ⟨_,U⟩
 have hg49d := hg49
 refine Jj U U U U hg49 U U (Jd (Jp U hg49 U) U U U (Jd (Jn U) U U U (Jj U U U U U U U (Jj U U U U U U U (Jd (Jp U U U) U U U (Jd (Ji U) U U U (Ja (hN10 _ _ ?_))))))))
 refine Jb [(1,.pointer _),(3,.bool _),(4,.bool _),(6,.bool _),(27,.bool _)] ⟨U,U,U,U,U,O⟩ fun σ => ?_
 refine Jt (b := _) U (fun hc27 => ?_) (fun hc27 => ?_)
 have hb := hc27
 refine Jw ?_
 refine Ki (()) (trivial) ⟨(congrArg Value.bool (by first | (simp_all [badE,isEmptyS]; done) | (simp_all [badE,isEmptyS]; omega))),trivial⟩ ⟨U,U,U,O⟩ ⟨_,U⟩
 have hb : ¬ _ := Bool.eq_false_iff.1 hc27
 refine Jk (Jd (Jc Up U) U U U (Jd (Jc Qg U) U U U (Jd (Jq Tryz.isAgg25 U (Jm 0 U U)) U U U (Jd (Ks Tryz.underlying25 U) U U U (Jd (Mh U U) U U U (Jd (Jn U) U U U ?_))))))
 refine Kh (want := true) U U U U U U (fun hg62 => ?_) (fun hg62 => ?_)
 have hg62d := odt hg62
 refine Jd (Je (Jn U)) U U U (Js U U U U hg62 (Jd (Je (Mp U)) U U U (Jd (Jo U hg62 U) U U U (Jd (Ji U) U U U (Ja ?_)))))
 refine Ki (()) (trivial) ⟨(congrArg Value.bool (by first | (simp_all [badE,isEmptyS]; done) | (simp_all [badE,isEmptyS]; omega))),trivial⟩ ⟨U,U,U,O⟩ ⟨_,U⟩
 have hg62d := odf hg62
 refine Jj U U U U hg62 U U (Jd (Jp U hg62 U) U U U (Jd (Ji U) U U U (Ja ?_)))
 refine Ki (()) (trivial) ⟨(congrArg Value.bool (by first | (simp_all [badE,isEmptyS]; done) | (simp_all [badE,isEmptyS]; omega))),trivial⟩ ⟨U,U,U,O⟩ ⟨_,U⟩
 have hg42d := Decidable.not_not.1 (odf hg42)
 refine Jj U U U U hg42 U U (Jd (Jp U hg42 U) U U U (Jd (Ji U) U U U (Ja (hN9 _ _ (Jb [(1,.pointer _),(3,.bool _),(4,.bool _),(6,.bool _),(27,.bool _)] ⟨U,U,U,U,U,O⟩ fun σ => ?_)))))
 refine Jt (b := _) U (fun hc27 => ?_) (fun hc27 => ?_)
 have hb := hc27
 refine Jw ?_
 refine Ki (()) (trivial) ⟨(congrArg Value.bool (by first | (simp_all [badE,isEmptyS]; done) | (simp_all [badE,isEmptyS]; omega))),trivial⟩ ⟨U,U,U,O⟩ ⟨_,U⟩
 have hb : ¬ _ := Bool.eq_false_iff.1 hc27
 refine Jg fun N11 hN11 => Jk (Jd (Jc Yh U) U U U (Jd (Jq Tryz.isAgg9 U (Jm 0 U U)) U U U (Jd (Yd U U) U U U (Jd (Jn U) U U U ?_))))
 refine Kh (want := true) U U U U U U (fun hg49 => ?_) (fun hg49 => ?_)
 have hg49d := hg49
 refine Jd (Je (Jn U)) U U U (Js U U U U hg49 (Jd (Je (Mp U)) U U U (Jd (Jo U hg49 U) U U U (Jd (Jn U) U U U ?_))))
 refine Kh (want := true) U U U U U U (fun hg53 => ?_) (fun hg53 => ?_)
 have hg53d := Ub hg53
 refine Jd (Je (Jn U)) U U U (Js U U U U hg53 (Jd (Je (Mp U)) U U U (Jd (Jo U hg53 U) U U U (Jd (Ji U) U U U (Ja (hN11 _ _ (Jb [(1,.pointer _),(3,.bool _),(4,.bool _),(6,.bool _),(27,.bool _)] ⟨U,U,U,U,U,O⟩ fun σ => ?_)))))))
 refine Jt (b := _) U (fun hc27 => ?_) (fun hc27 => ?_)
 have hb := hc27
 refine Jw ?_
 refine Ki (()) (trivial) ⟨(congrArg Value.bool (by first | (simp_all [badE,isEmptyS]; done) | (simp_all [badE,isEmptyS]; omega))),trivial⟩ ⟨U,U,U,O⟩ ⟨_,U⟩
 have hb : ¬ _ := Bool.eq_false_iff.1 hc27
 refine Jk (Jd (Jc Up U) U U U (Jd (Jc Qg U) U U U (Jd (Jq Tryz.isAgg25 U (Jm 0 U U)) U U U (Jd (Ks Tryz.underlying25 U) U U U (Jd (Mh U U) U U U (Jd (Jn U) U U U ?_))))))
 refine Kh (want := true) U U U U U U (fun hg62 => ?_) (fun hg62 => ?_)
 have hg62d := odt hg62
 refine Jd (Je (Jn U)) U U U (Js U U U U hg62 (Jd (Je (Mp U)) U U U (Jd (Jo U hg62 U) U U U (Jd (Ji U) U U U (Ja ?_)))))
 refine Ki (()) (trivial) ⟨(congrArg Value.bool (by first | (simp_all [badE,isEmptyS]; done) | (simp_all [badE,isEmptyS]; omega))),trivial⟩ ⟨U,U,U,O⟩ ⟨_,U⟩
 have hg62d := odf hg62
 refine Jj U U U U hg62 U U (Jd (Jp U hg62 U) U U U (Jd (Ji U) U U U (Ja ?_)))
 refine Ki (()) (trivial) ⟨(congrArg Value.bool (by first | (simp_all [badE,isEmptyS]; done) | (simp_all [badE,isEmptyS]; omega))),trivial⟩ ⟨U,U,U,O⟩ ⟨_,U⟩
 have hg53d := Ue hg53
 refine Jj U U U U hg53 U U (Jd (Jp U hg53 U) U U U (Jd (Ji U) U U U (Ja (hN11 _ _ (Jb [(1,.pointer _),(3,.bool _),(4,.bool _),(6,.bool _),(27,.bool _)] ⟨U,U,U,U,U,O⟩ fun σ => ?_)))))
 refine Jt (b := _) U (fun hc27 => ?_) (fun hc27 => ?_)
 have hb := hc27
 refine Jw ?_
 refine Ki (()) (trivial) ⟨(congrArg Value.bool (by first | (simp_all [badE,isEmptyS]; done) | (simp_all [badE,isEmptyS]; omega))),trivial⟩ ⟨U,U,U,O⟩ ⟨_,U⟩
 have hb : ¬ _ := Bool.eq_false_iff.1 hc27
 refine Jk (Jd (Jc Up U) U U U (Jd (Jc Qg U) U U U (Jd (Jq Tryz.isAgg25 U (Jm 0 U U)) U U U (Jd (Ks Tryz.underlying25 U) U U U (Jd (Mh U U) U U U (Jd (Jn U) U U U ?_))))))
 refine Kh (want := true) U U U U U U (fun hg62 => ?_) (fun hg62 => ?_)
 have hg62d := odt hg62
 refine Jd (Je (Jn U)) U U U (Js U U U U hg62 (Jd (Je (Mp U)) U U U (Jd (Jo U hg62 U) U U U (Jd (Ji U) U U U (Ja ?_)))))
 refine Ki (()) (trivial) ⟨(congrArg Value.bool (by first | (simp_all [badE,isEmptyS]; done) | (simp_all [badE,isEmptyS]; omega))),trivial⟩ ⟨U,U,U,O⟩ ⟨_,U⟩
 have hg62d := odf hg62
 refine Jj U U U U hg62 U U (Jd (Jp U hg62 U) U U U (Jd (Ji U) U U U (Ja ?_)))
 refine Ki (()) (trivial) ⟨(congrArg Value.bool (by first | (simp_all [badE,isEmptyS]; done) | (simp_all [badE,isEmptyS]; omega))),trivial⟩ ⟨U,U,U,O⟩ ⟨_,U⟩
 have hg49d := hg49
 refine Jj U U U U hg49 U U (Jd (Jp U hg49 U) U U U (Jd (Jn U) U U U (Jj U U U U U U U (Jj U U U U U U U (Jd (Jp U U U) U U U (Jd (Ji U) U U U (Ja (hN11 _ _ ?_))))))))
 refine Jb [(1,.pointer _),(3,.bool _),(4,.bool _),(6,.bool _),(27,.bool _)] ⟨U,U,U,U,U,O⟩ fun σ => ?_
 refine Jt (b := _) U (fun hc27 => ?_) (fun hc27 => ?_)
 have hb := hc27
 refine Jw ?_
 refine Ki (()) (trivial) ⟨(congrArg Value.bool (by first | (simp_all [badE,isEmptyS]; done) | (simp_all [badE,isEmptyS]; omega))),trivial⟩ ⟨U,U,U,O⟩ ⟨_,U⟩
 have hb : ¬ _ := Bool.eq_false_iff.1 hc27
 refine Jk (Jd (Jc Up U) U U U (Jd (Jc Qg U) U U U (Jd (Jq Tryz.isAgg25 U (Jm 0 U U)) U U U (Jd (Ks Tryz.underlying25 U) U U U (Jd (Mh U U) U U U (Jd (Jn U) U U U ?_))))))
 refine Kh (want := true) U U U U U U (fun hg62 => ?_) (fun hg62 => ?_)
 have hg62d := odt hg62
 refine Jd (Je (Jn U)) U U U (Js U U U U hg62 (Jd (Je (Mp U)) U U U (Jd (Jo U hg62 U) U U U (Jd (Ji U) U U U (Ja ?_)))))
 refine Ki (()) (trivial) ⟨(congrArg Value.bool (by first | (simp_all [badE,isEmptyS]; done) | (simp_all [badE,isEmptyS]; omega))),trivial⟩ ⟨U,U,U,O⟩ ⟨_,U⟩
 have hg62d := odf hg62
 refine Jj U U U U hg62 U U (Jd (Jp U hg62 U) U U U (Jd (Ji U) U U U (Ja ?_)))
 refine Ki (()) (trivial) ⟨(congrArg Value.bool (by first | (simp_all [badE,isEmptyS]; done) | (simp_all [badE,isEmptyS]; omega))),trivial⟩ ⟨U,U,U,O⟩ ⟨_,U⟩
 have hg35d := Ue hg35
 refine Jj U U U U hg35 U U (Jd (Jp U hg35 U) U U U (Jd (Ji U) U U U (Ja (hN8 _ _ (Jb [(1,.pointer _),(3,.bool _),(4,.bool _),(6,.bool _),(27,.bool _)] ⟨U,U,U,U,U,O⟩ fun σ => ?_)))))
 refine Jt (b := _) U (fun hc27 => ?_) (fun hc27 => ?_)
 have hb := hc27
 refine Jw ?_
 refine Ki (()) (trivial) ⟨(congrArg Value.bool (by first | (simp_all [badE,isEmptyS]; done) | (simp_all [badE,isEmptyS]; omega))),trivial⟩ ⟨U,U,U,O⟩ ⟨_,U⟩
 have hb : ¬ _ := Bool.eq_false_iff.1 hc27
 refine Jg fun N12 hN12 => Jk (Jd (Jc fa29_3 U) U U U (Jd (Jq Tryz.isAgg3 U (Jm 0 U U)) U U U (Jd (Uj U U) U U U (Jd (Jn U) U U U ?_))))
 refine Kh (want := true) U U U U U U (fun hg42 => ?_) (fun hg42 => ?_)
 have hg42d := odt hg42
 refine Jd (Je (Jn U)) U U U (Js U U U U hg42 (Jd (Je (Mp U)) U U U (Jd (Jo U hg42 U) U U U (Jd (Ji U) U U U (Ja (hN12 _ _ (Jb [(1,.pointer _),(3,.bool _),(4,.bool _),(6,.bool _),(27,.bool _)] ⟨U,U,U,U,U,O⟩ fun σ => ?_)))))))
 refine Jt (b := _) U (fun hc27 => ?_) (fun hc27 => ?_)
 have hb := hc27
 refine Jw ?_
 refine Ki (()) (trivial) ⟨(congrArg Value.bool (by first | (simp_all [badE,isEmptyS]; done) | (simp_all [badE,isEmptyS]; omega))),trivial⟩ ⟨U,U,U,O⟩ ⟨_,U⟩
 have hb : ¬ _ := Bool.eq_false_iff.1 hc27
 refine Jg fun N13 hN13 => Jk (Jd (Jc Yh U) U U U (Jd (Jq Tryz.isAgg9 U (Jm 0 U U)) U U U (Jd (Yd U U) U U U (Jd (Jn U) U U U ?_))))
 refine Kh (want := true) U U U U U U (fun hg49 => ?_) (fun hg49 => ?_)
 have hg49d := hg49
 refine Jd (Je (Jn U)) U U U (Js U U U U hg49 (Jd (Je (Mp U)) U U U (Jd (Jo U hg49 U) U U U (Jd (Jn U) U U U ?_))))
 refine Kh (want := true) U U U U U U (fun hg53 => ?_) (fun hg53 => ?_)
 have hg53d := Ub hg53
 refine Jd (Je (Jn U)) U U U (Js U U U U hg53 (Jd (Je (Mp U)) U U U (Jd (Jo U hg53 U) U U U (Jd (Ji U) U U U (Ja (hN13 _ _ (Jb [(1,.pointer _),(3,.bool _),(4,.bool _),(6,.bool _),(27,.bool _)] ⟨U,U,U,U,U,O⟩ fun σ => ?_)))))))
 refine Jt (b := _) U (fun hc27 => ?_) (fun hc27 => ?_)
 have hb := hc27
 refine Jw ?_
 refine Ki (()) (trivial) ⟨(congrArg Value.bool (by first | (simp_all [badE,isEmptyS]; done) | (simp_all [badE,isEmptyS]; omega))),trivial⟩ ⟨U,U,U,O⟩ ⟨_,U⟩
 have hb : ¬ _ := Bool.eq_false_iff.1 hc27
 refine Jk (Jd (Jc Up U) U U U (Jd (Jc Qg U) U U U (Jd (Jq Tryz.isAgg25 U (Jm 0 U U)) U U U (Jd (Ks Tryz.underlying25 U) U U U (Jd (Mh U U) U U U (Jd (Jn U) U U U ?_))))))
 refine Kh (want := true) U U U U U U (fun hg62 => ?_) (fun hg62 => ?_)
 have hg62d := odt hg62
 refine Jd (Je (Jn U)) U U U (Js U U U U hg62 (Jd (Je (Mp U)) U U U (Jd (Jo U hg62 U) U U U (Jd (Ji U) U U U (Ja ?_)))))
 refine Ki (()) (trivial) ⟨(congrArg Value.bool (by first | (simp_all [badE,isEmptyS]; done) | (simp_all [badE,isEmptyS]; omega))),trivial⟩ ⟨U,U,U,O⟩ ⟨_,U⟩
 have hg62d := odf hg62
 refine Jj U U U U hg62 U U (Jd (Jp U hg62 U) U U U (Jd (Ji U) U U U (Ja ?_)))
 refine Ki (()) (trivial) ⟨(congrArg Value.bool (by first | (simp_all [badE,isEmptyS]; done) | (simp_all [badE,isEmptyS]; omega))),trivial⟩ ⟨U,U,U,O⟩ ⟨_,U⟩
 have hg53d := Ue hg53
 refine Jj U U U U hg53 U U (Jd (Jp U hg53 U) U U U (Jd (Ji U) U U U (Ja (hN13 _ _ (Jb [(1,.pointer _),(3,.bool _),(4,.bool _),(6,.bool _),(27,.bool _)] ⟨U,U,U,U,U,O⟩ fun σ => ?_)))))
 refine Jt (b := _) U (fun hc27 => ?_) (fun hc27 => ?_)
 have hb := hc27
 refine Jw ?_
 refine Ki (()) (trivial) ⟨(congrArg Value.bool (by first | (simp_all [badE,isEmptyS]; done) | (simp_all [badE,isEmptyS]; omega))),trivial⟩ ⟨U,U,U,O⟩ ⟨_,U⟩
 have hb : ¬ _ := Bool.eq_false_iff.1 hc27
 refine Jk (Jd (Jc Up U) U U U (Jd (Jc Qg U) U U U (Jd (Jq Tryz.isAgg25 U (Jm 0 U U)) U U U (Jd (Ks Tryz.underlying25 U) U U U (Jd (Mh U U) U U U (Jd (Jn U) U U U ?_))))))
 refine Kh (want := true) U U U U U U (fun hg62 => ?_) (fun hg62 => ?_)
 have hg62d := odt hg62
 refine Jd (Je (Jn U)) U U U (Js U U U U hg62 (Jd (Je (Mp U)) U U U (Jd (Jo U hg62 U) U U U (Jd (Ji U) U U U (Ja ?_)))))
 refine Ki (()) (trivial) ⟨(congrArg Value.bool (by first | (simp_all [badE,isEmptyS]; done) | (simp_all [badE,isEmptyS]; omega))),trivial⟩ ⟨U,U,U,O⟩ ⟨_,U⟩
 have hg62d := odf hg62
 refine Jj U U U U hg62 U U (Jd (Jp U hg62 U) U U U (Jd (Ji U) U U U (Ja ?_)))
 refine Ki (()) (trivial) ⟨(congrArg Value.bool (by first | (simp_all [badE,isEmptyS]; done) | (simp_all [badE,isEmptyS]; omega))),trivial⟩ ⟨U,U,U,O⟩ ⟨_,U⟩
 have hg49d := hg49
 refine Jj U U U U hg49 U U (Jd (Jp U hg49 U) U U U (Jd (Jn U) U U U (Jj U U U U U U U (Jj U U U U U U U (Jd (Jp U U U) U U U (Jd (Ji U) U U U (Ja (hN13 _ _ ?_))))))))
 refine Jb [(1,.pointer _),(3,.bool _),(4,.bool _),(6,.bool _),(27,.bool _)] ⟨U,U,U,U,U,O⟩ fun σ => ?_
 refine Jt (b := _) U (fun hc27 => ?_) (fun hc27 => ?_)
 have hb := hc27
 refine Jw ?_
 refine Ki (()) (trivial) ⟨(congrArg Value.bool (by first | (simp_all [badE,isEmptyS]; done) | (simp_all [badE,isEmptyS]; omega))),trivial⟩ ⟨U,U,U,O⟩ ⟨_,U⟩
 have hb : ¬ _ := Bool.eq_false_iff.1 hc27
 refine Jk (Jd (Jc Up U) U U U (Jd (Jc Qg U) U U U (Jd (Jq Tryz.isAgg25 U (Jm 0 U U)) U U U (Jd (Ks Tryz.underlying25 U) U U U (Jd (Mh U U) U U U (Jd (Jn U) U U U ?_))))))
 refine Kh (want := true) U U U U U U (fun hg62 => ?_) (fun hg62 => ?_)
 have hg62d := odt hg62
 refine Jd (Je (Jn U)) U U U (Js U U U U hg62 (Jd (Je (Mp U)) U U U (Jd (Jo U hg62 U) U U U (Jd (Ji U) U U U (Ja ?_)))))
 refine Ki (()) (trivial) ⟨(congrArg Value.bool (by first | (simp_all [badE,isEmptyS]; done) | (simp_all [badE,isEmptyS]; omega))),trivial⟩ ⟨U,U,U,O⟩ ⟨_,U⟩
 have hg62d := odf hg62
 refine Jj U U U U hg62 U U (Jd (Jp U hg62 U) U U U (Jd (Ji U) U U U (Ja ?_)))
 refine Ki (()) (trivial) ⟨(congrArg Value.bool (by first | (simp_all [badE,isEmptyS]; done) | (simp_all [badE,isEmptyS]; omega))),trivial⟩ ⟨U,U,U,O⟩ ⟨_,U⟩
 have hg42d := Decidable.not_not.1 (odf hg42)
 refine Jj U U U U hg42 U U (Jd (Jp U hg42 U) U U U (Jd (Ji U) U U U (Ja (hN12 _ _ (Jb [(1,.pointer _),(3,.bool _),(4,.bool _),(6,.bool _),(27,.bool _)] ⟨U,U,U,U,U,O⟩ fun σ => ?_)))))
 refine Jt (b := _) U (fun hc27 => ?_) (fun hc27 => ?_)
 have hb := hc27
 refine Jw ?_
 refine Ki (()) (trivial) ⟨(congrArg Value.bool (by first | (simp_all [badE,isEmptyS]; done) | (simp_all [badE,isEmptyS]; omega))),trivial⟩ ⟨U,U,U,O⟩ ⟨_,U⟩
 have hb : ¬ _ := Bool.eq_false_iff.1 hc27
 refine Jg fun N14 hN14 => Jk (Jd (Jc Yh U) U U U (Jd (Jq Tryz.isAgg9 U (Jm 0 U U)) U U U (Jd (Yd U U) U U U (Jd (Jn U) U U U ?_))))
 refine Kh (want := true) U U U U U U (fun hg49 => ?_) (fun hg49 => ?_)
 have hg49d := hg49
 refine Jd (Je (Jn U)) U U U (Js U U U U hg49 (Jd (Je (Mp U)) U U U (Jd (Jo U hg49 U) U U U (Jd (Jn U) U U U ?_))))
 refine Kh (want := true) U U U U U U (fun hg53 => ?_) (fun hg53 => ?_)
 have hg53d := Ub hg53
 refine Jd (Je (Jn U)) U U U (Js U U U U hg53 (Jd (Je (Mp U)) U U U (Jd (Jo U hg53 U) U U U (Jd (Ji U) U U U (Ja (hN14 _ _ (Jb [(1,.pointer _),(3,.bool _),(4,.bool _),(6,.bool _),(27,.bool _)] ⟨U,U,U,U,U,O⟩ fun σ => ?_)))))))
 refine Jt (b := _) U (fun hc27 => ?_) (fun hc27 => ?_)
 have hb := hc27
 refine Jw ?_
 refine Ki (()) (trivial) ⟨(congrArg Value.bool (by first | (simp_all [badE,isEmptyS]; done) | (simp_all [badE,isEmptyS]; omega))),trivial⟩ ⟨U,U,U,O⟩ ⟨_,U⟩
 have hb : ¬ _ := Bool.eq_false_iff.1 hc27
 refine Jk (Jd (Jc Up U) U U U (Jd (Jc Qg U) U U U (Jd (Jq Tryz.isAgg25 U (Jm 0 U U)) U U U (Jd (Ks Tryz.underlying25 U) U U U (Jd (Mh U U) U U U (Jd (Jn U) U U U ?_))))))
 refine Kh (want := true) U U U U U U (fun hg62 => ?_) (fun hg62 => ?_)
 have hg62d := odt hg62
 refine Jd (Je (Jn U)) U U U (Js U U U U hg62 (Jd (Je (Mp U)) U U U (Jd (Jo U hg62 U) U U U (Jd (Ji U) U U U (Ja ?_)))))
 refine Ki (()) (trivial) ⟨(congrArg Value.bool (by first | (simp_all [badE,isEmptyS]; done) | (simp_all [badE,isEmptyS]; omega))),trivial⟩ ⟨U,U,U,O⟩ ⟨_,U⟩
 have hg62d := odf hg62
 refine Jj U U U U hg62 U U (Jd (Jp U hg62 U) U U U (Jd (Ji U) U U U (Ja ?_)))
 refine Ki (()) (trivial) ⟨(congrArg Value.bool (by first | (simp_all [badE,isEmptyS]; done) | (simp_all [badE,isEmptyS]; omega))),trivial⟩ ⟨U,U,U,O⟩ ⟨_,U⟩
 have hg53d := Ue hg53
 refine Jj U U U U hg53 U U (Jd (Jp U hg53 U) U U U (Jd (Ji U) U U U (Ja (hN14 _ _ (Jb [(1,.pointer _),(3,.bool _),(4,.bool _),(6,.bool _),(27,.bool _)] ⟨U,U,U,U,U,O⟩ fun σ => ?_)))))
 refine Jt (b := _) U (fun hc27 => ?_) (fun hc27 => ?_)
 have hb := hc27
 refine Jw ?_
 refine Ki (()) (trivial) ⟨(congrArg Value.bool (by first | (simp_all [badE,isEmptyS]; done) | (simp_all [badE,isEmptyS]; omega))),trivial⟩ ⟨U,U,U,O⟩ ⟨_,U⟩
 have hb : ¬ _ := Bool.eq_false_iff.1 hc27
 refine Jk (Jd (Jc Up U) U U U (Jd (Jc Qg U) U U U (Jd (Jq Tryz.isAgg25 U (Jm 0 U U)) U U U (Jd (Ks Tryz.underlying25 U) U U U (Jd (Mh U U) U U U (Jd (Jn U) U U U ?_))))))
 refine Kh (want := true) U U U U U U (fun hg62 => ?_) (fun hg62 => ?_)
 have hg62d := odt hg62
 refine Jd (Je (Jn U)) U U U (Js U U U U hg62 (Jd (Je (Mp U)) U U U (Jd (Jo U hg62 U) U U U (Jd (Ji U) U U U (Ja ?_)))))
 refine Ki (()) (trivial) ⟨(congrArg Value.bool (by first | (simp_all [badE,isEmptyS]; done) | (simp_all [badE,isEmptyS]; omega))),trivial⟩ ⟨U,U,U,O⟩ ⟨_,U⟩
 have hg62d := odf hg62
 refine Jj U U U U hg62 U U (Jd (Jp U hg62 U) U U U (Jd (Ji U) U U U (Ja ?_)))
 refine Ki (()) (trivial) ⟨(congrArg Value.bool (by first | (simp_all [badE,isEmptyS]; done) | (simp_all [badE,isEmptyS]; omega))),trivial⟩ ⟨U,U,U,O⟩ ⟨_,U⟩
 have hg49d := hg49
 refine Jj U U U U hg49 U U (Jd (Jp U hg49 U) U U U (Jd (Jn U) U U U (Jj U U U U U U U (Jj U U U U U U U (Jd (Jp U U U) U U U (Jd (Ji U) U U U (Ja (hN14 _ _ ?_))))))))
 refine Jb [(1,.pointer _),(3,.bool _),(4,.bool _),(6,.bool _),(27,.bool _)] ⟨U,U,U,U,U,O⟩ fun σ => ?_
 refine Jt (b := _) U (fun hc27 => ?_) (fun hc27 => ?_)
 have hb := hc27
 refine Jw ?_
 refine Ki (()) (trivial) ⟨(congrArg Value.bool (by first | (simp_all [badE,isEmptyS]; done) | (simp_all [badE,isEmptyS]; omega))),trivial⟩ ⟨U,U,U,O⟩ ⟨_,U⟩
 have hb : ¬ _ := Bool.eq_false_iff.1 hc27
 refine Jk (Jd (Jc Up U) U U U (Jd (Jc Qg U) U U U (Jd (Jq Tryz.isAgg25 U (Jm 0 U U)) U U U (Jd (Ks Tryz.underlying25 U) U U U (Jd (Mh U U) U U U (Jd (Jn U) U U U ?_))))))
 refine Kh (want := true) U U U U U U (fun hg62 => ?_) (fun hg62 => ?_)
 have hg62d := odt hg62
 refine Jd (Je (Jn U)) U U U (Js U U U U hg62 (Jd (Je (Mp U)) U U U (Jd (Jo U hg62 U) U U U (Jd (Ji U) U U U (Ja ?_)))))
 refine Ki (()) (trivial) ⟨(congrArg Value.bool (by first | (simp_all [badE,isEmptyS]; done) | (simp_all [badE,isEmptyS]; omega))),trivial⟩ ⟨U,U,U,O⟩ ⟨_,U⟩
 have hg62d := odf hg62
 refine Jj U U U U hg62 U U (Jd (Jp U hg62 U) U U U (Jd (Ji U) U U U (Ja ?_)))
 refine Ki (()) (trivial) ⟨(congrArg Value.bool (by first | (simp_all [badE,isEmptyS]; done) | (simp_all [badE,isEmptyS]; omega))),trivial⟩ ⟨U,U,U,O⟩ ⟨_,U⟩
 have hg31d := Decidable.not_not.1 (odf hg31)
 refine Jj U U U U hg31 U U (Jd (Jp U hg31 U) U U U (Jd (Jn U) U U U (Jj U U U U U U U (Jj U U U U U U U (Jd (Jp U U U) U U U (Jd (Ji U) U U U (Ja (hN8 _ _ ?_))))))))
 refine Jb [(1,.pointer _),(3,.bool _),(4,.bool _),(6,.bool _),(27,.bool _)] ⟨U,U,U,U,U,O⟩ fun σ => ?_
 refine Jt (b := _) U (fun hc27 => ?_) (fun hc27 => ?_)
 have hb := hc27
 refine Jw ?_
 refine Ki (()) (trivial) ⟨(congrArg Value.bool (by first | (simp_all [badE,isEmptyS]; done) | (simp_all [badE,isEmptyS]; omega))),trivial⟩ ⟨U,U,U,O⟩ ⟨_,U⟩
 have hb : ¬ _ := Bool.eq_false_iff.1 hc27
 refine Jg fun N15 hN15 => Jk (Jd (Jc fa29_3 U) U U U (Jd (Jq Tryz.isAgg3 U (Jm 0 U U)) U U U (Jd (Uj U U) U U U (Jd (Jn U) U U U ?_))))
 refine Kh (want := true) U U U U U U (fun hg42 => ?_) (fun hg42 => ?_)
 have hg42d := odt hg42
 refine Jd (Je (Jn U)) U U U (Js U U U U hg42 (Jd (Je (Mp U)) U U U (Jd (Jo U hg42 U) U U U (Jd (Ji U) U U U (Ja (hN15 _ _ (Jb [(1,.pointer _),(3,.bool _),(4,.bool _),(6,.bool _),(27,.bool _)] ⟨U,U,U,U,U,O⟩ fun σ => ?_)))))))
 refine Jt (b := _) U (fun hc27 => ?_) (fun hc27 => ?_)
 have hb := hc27
 refine Jw ?_
 refine Ki (()) (trivial) ⟨(congrArg Value.bool (by first | (simp_all [badE,isEmptyS]; done) | (simp_all [badE,isEmptyS]; omega))),trivial⟩ ⟨U,U,U,O⟩ ⟨_,U⟩
 have hb : ¬ _ := Bool.eq_false_iff.1 hc27
 refine Jg fun N16 hN16 => Jk (Jd (Jc Yh U) U U U (Jd (Jq Tryz.isAgg9 U (Jm 0 U U)) U U U (Jd (Yd U U) U U U (Jd (Jn U) U U U ?_))))
 refine Kh (want := true) U U U U U U (fun hg49 => ?_) (fun hg49 => ?_)
 have hg49d := hg49
 refine Jd (Je (Jn U)) U U U (Js U U U U hg49 (Jd (Je (Mp U)) U U U (Jd (Jo U hg49 U) U U U (Jd (Jn U) U U U ?_))))
 refine Kh (want := true) U U U U U U (fun hg53 => ?_) (fun hg53 => ?_)
 have hg53d := Ub hg53
 refine Jd (Je (Jn U)) U U U (Js U U U U hg53 (Jd (Je (Mp U)) U U U (Jd (Jo U hg53 U) U U U (Jd (Ji U) U U U (Ja (hN16 _ _ (Jb [(1,.pointer _),(3,.bool _),(4,.bool _),(6,.bool _),(27,.bool _)] ⟨U,U,U,U,U,O⟩ fun σ => ?_)))))))
 refine Jt (b := _) U (fun hc27 => ?_) (fun hc27 => ?_)
 have hb := hc27
 refine Jw ?_
 refine Ki (()) (trivial) ⟨(congrArg Value.bool (by first | (simp_all [badE,isEmptyS]; done) | (simp_all [badE,isEmptyS]; omega))),trivial⟩ ⟨U,U,U,O⟩ ⟨_,U⟩
 have hb : ¬ _ := Bool.eq_false_iff.1 hc27
 refine Jk (Jd (Jc Up U) U U U (Jd (Jc Qg U) U U U (Jd (Jq Tryz.isAgg25 U (Jm 0 U U)) U U U (Jd (Ks Tryz.underlying25 U) U U U (Jd (Mh U U) U U U (Jd (Jn U) U U U ?_))))))
 refine Kh (want := true) U U U U U U (fun hg62 => ?_) (fun hg62 => ?_)
 have hg62d := odt hg62
 refine Jd (Je (Jn U)) U U U (Js U U U U hg62 (Jd (Je (Mp U)) U U U (Jd (Jo U hg62 U) U U U (Jd (Ji U) U U U (Ja ?_)))))
 refine Ki (()) (trivial) ⟨(congrArg Value.bool (by first | (simp_all [badE,isEmptyS]; done) | (simp_all [badE,isEmptyS]; omega))),trivial⟩ ⟨U,U,U,O⟩ ⟨_,U⟩
 have hg62d := odf hg62
 refine Jj U U U U hg62 U U (Jd (Jp U hg62 U) U U U (Jd (Ji U) U U U (Ja ?_)))
 refine Ki (()) (trivial) ⟨(congrArg Value.bool (by first | (simp_all [badE,isEmptyS]; done) | (simp_all [badE,isEmptyS]; omega))),trivial⟩ ⟨U,U,U,O⟩ ⟨_,U⟩
 have hg53d := Ue hg53
 refine Jj U U U U hg53 U U (Jd (Jp U hg53 U) U U U (Jd (Ji U) U U U (Ja (hN16 _ _ (Jb [(1,.pointer _),(3,.bool _),(4,.bool _),(6,.bool _),(27,.bool _)] ⟨U,U,U,U,U,O⟩ fun σ => ?_)))))
 refine Jt (b := _) U (fun hc27 => ?_) (fun hc27 => ?_)
 have hb := hc27
 refine Jw ?_
 refine Ki (()) (trivial) ⟨(congrArg Value.bool (by first | (simp_all [badE,isEmptyS]; done) | (simp_all [badE,isEmptyS]; omega))),trivial⟩ ⟨U,U,U,O⟩ ⟨_,U⟩
 have hb : ¬ _ := Bool.eq_false_iff.1 hc27
 refine Jk (Jd (Jc Up U) U U U (Jd (Jc Qg U) U U U (Jd (Jq Tryz.isAgg25 U (Jm 0 U U)) U U U (Jd (Ks Tryz.underlying25 U) U U U (Jd (Mh U U) U U U (Jd (Jn U) U U U ?_))))))
 refine Kh (want := true) U U U U U U (fun hg62 => ?_) (fun hg62 => ?_)
 have hg62d := odt hg62
 refine Jd (Je (Jn U)) U U U (Js U U U U hg62 (Jd (Je (Mp U)) U U U (Jd (Jo U hg62 U) U U U (Jd (Ji U) U U U (Ja ?_)))))
 refine Ki (()) (trivial) ⟨(congrArg Value.bool (by first | (simp_all [badE,isEmptyS]; done) | (simp_all [badE,isEmptyS]; omega))),trivial⟩ ⟨U,U,U,O⟩ ⟨_,U⟩
 have hg62d := odf hg62
 refine Jj U U U U hg62 U U (Jd (Jp U hg62 U) U U U (Jd (Ji U) U U U (Ja ?_)))
 refine Ki (()) (trivial) ⟨(congrArg Value.bool (by first | (simp_all [badE,isEmptyS]; done) | (simp_all [badE,isEmptyS]; omega))),trivial⟩ ⟨U,U,U,O⟩ ⟨_,U⟩
 have hg49d := hg49
 refine Jj U U U U hg49 U U (Jd (Jp U hg49 U) U U U (Jd (Jn U) U U U (Jj U U U U U U U (Jj U U U U U U U (Jd (Jp U U U) U U U (Jd (Ji U) U U U (Ja (hN16 _ _ ?_))))))))
 refine Jb [(1,.pointer _),(3,.bool _),(4,.bool _),(6,.bool _),(27,.bool _)] ⟨U,U,U,U,U,O⟩ fun σ => ?_
 refine Jt (b := _) U (fun hc27 => ?_) (fun hc27 => ?_)
 have hb := hc27
 refine Jw ?_
 refine Ki (()) (trivial) ⟨(congrArg Value.bool (by first | (simp_all [badE,isEmptyS]; done) | (simp_all [badE,isEmptyS]; omega))),trivial⟩ ⟨U,U,U,O⟩ ⟨_,U⟩
 have hb : ¬ _ := Bool.eq_false_iff.1 hc27
 refine Jk (Jd (Jc Up U) U U U (Jd (Jc Qg U) U U U (Jd (Jq Tryz.isAgg25 U (Jm 0 U U)) U U U (Jd (Ks Tryz.underlying25 U) U U U (Jd (Mh U U) U U U (Jd (Jn U) U U U ?_))))))
 refine Kh (want := true) U U U U U U (fun hg62 => ?_) (fun hg62 => ?_)
 have hg62d := odt hg62
 refine Jd (Je (Jn U)) U U U (Js U U U U hg62 (Jd (Je (Mp U)) U U U (Jd (Jo U hg62 U) U U U (Jd (Ji U) U U U (Ja ?_)))))
 refine Ki (()) (trivial) ⟨(congrArg Value.bool (by first | (simp_all [badE,isEmptyS]; done) | (simp_all [badE,isEmptyS]; omega))),trivial⟩ ⟨U,U,U,O⟩ ⟨_,U⟩
 have hg62d := odf hg62
 refine Jj U U U U hg62 U U (Jd (Jp U hg62 U) U U U (Jd (Ji U) U U U (Ja ?_)))
 refine Ki (()) (trivial) ⟨(congrArg Value.bool (by first | (simp_all [badE,isEmptyS]; done) | (simp_all [badE,isEmptyS]; omega))),trivial⟩ ⟨U,U,U,O⟩ ⟨_,U⟩
 have hg42d := Decidable.not_not.1 (odf hg42)
 refine Jj U U U U hg42 U U (Jd (Jp U hg42 U) U U U (Jd (Ji U) U U U (Ja (hN15 _ _ (Jb [(1,.pointer _),(3,.bool _),(4,.bool _),(6,.bool _),(27,.bool _)] ⟨U,U,U,U,U,O⟩ fun σ => ?_)))))
 refine Jt (b := _) U (fun hc27 => ?_) (fun hc27 => ?_)
 have hb := hc27
 refine Jw ?_
 refine Ki (()) (trivial) ⟨(congrArg Value.bool (by first | (simp_all [badE,isEmptyS]; done) | (simp_all [badE,isEmptyS]; omega))),trivial⟩ ⟨U,U,U,O⟩ ⟨_,U⟩
 have hb : ¬ _ := Bool.eq_false_iff.1 hc27
 refine Jg fun N17 hN17 => Jk (Jd (Jc Yh U) U U U (Jd (Jq Tryz.isAgg9 U (Jm 0 U U)) U U U (Jd (Yd U U) U U U (Jd (Jn U) U U U ?_))))
 refine Kh (want := true) U U U U U U (fun hg49 => ?_) (fun hg49 => ?_)
 have hg49d := hg49
 refine Jd (Je (Jn U)) U U U (Js U U U U hg49 (Jd (Je (Mp U)) U U U (Jd (Jo U hg49 U) U U U (Jd (Jn U) U U U ?_))))
 refine Kh (want := true) U U U U U U (fun hg53 => ?_) (fun hg53 => ?_)
 have hg53d := Ub hg53
 refine Jd (Je (Jn U)) U U U (Js U U U U hg53 (Jd (Je (Mp U)) U U U (Jd (Jo U hg53 U) U U U (Jd (Ji U) U U U (Ja (hN17 _ _ (Jb [(1,.pointer _),(3,.bool _),(4,.bool _),(6,.bool _),(27,.bool _)] ⟨U,U,U,U,U,O⟩ fun σ => ?_)))))))
 refine Jt (b := _) U (fun hc27 => ?_) (fun hc27 => ?_)
 have hb := hc27
 refine Jw ?_
 refine Ki (()) (trivial) ⟨(congrArg Value.bool (by first | (simp_all [badE,isEmptyS]; done) | (simp_all [badE,isEmptyS]; omega))),trivial⟩ ⟨U,U,U,O⟩ ⟨_,U⟩
 have hb : ¬ _ := Bool.eq_false_iff.1 hc27
 refine Jk (Jd (Jc Up U) U U U (Jd (Jc Qg U) U U U (Jd (Jq Tryz.isAgg25 U (Jm 0 U U)) U U U (Jd (Ks Tryz.underlying25 U) U U U (Jd (Mh U U) U U U (Jd (Jn U) U U U ?_))))))
 refine Kh (want := true) U U U U U U (fun hg62 => ?_) (fun hg62 => ?_)
 have hg62d := odt hg62
 refine Jd (Je (Jn U)) U U U (Js U U U U hg62 (Jd (Je (Mp U)) U U U (Jd (Jo U hg62 U) U U U (Jd (Ji U) U U U (Ja ?_)))))
 refine Ki (()) (trivial) ⟨(congrArg Value.bool (by first | (simp_all [badE,isEmptyS]; done) | (simp_all [badE,isEmptyS]; omega))),trivial⟩ ⟨U,U,U,O⟩ ⟨_,U⟩
 have hg62d := odf hg62
 refine Jj U U U U hg62 U U (Jd (Jp U hg62 U) U U U (Jd (Ji U) U U U (Ja ?_)))
 refine Ki (()) (trivial) ⟨(congrArg Value.bool (by first | (simp_all [badE,isEmptyS]; done) | (simp_all [badE,isEmptyS]; omega))),trivial⟩ ⟨U,U,U,O⟩ ⟨_,U⟩
 have hg53d := Ue hg53
 refine Jj U U U U hg53 U U (Jd (Jp U hg53 U) U U U (Jd (Ji U) U U U (Ja (hN17 _ _ (Jb [(1,.pointer _),(3,.bool _),(4,.bool _),(6,.bool _),(27,.bool _)] ⟨U,U,U,U,U,O⟩ fun σ => ?_)))))
 refine Jt (b := _) U (fun hc27 => ?_) (fun hc27 => ?_)
 have hb := hc27
 refine Jw ?_
 refine Ki (()) (trivial) ⟨(congrArg Value.bool (by first | (simp_all [badE,isEmptyS]; done) | (simp_all [badE,isEmptyS]; omega))),trivial⟩ ⟨U,U,U,O⟩ ⟨_,U⟩
 have hb : ¬ _ := Bool.eq_false_iff.1 hc27
 refine Jk (Jd (Jc Up U) U U U (Jd (Jc Qg U) U U U (Jd (Jq Tryz.isAgg25 U (Jm 0 U U)) U U U (Jd (Ks Tryz.underlying25 U) U U U (Jd (Mh U U) U U U (Jd (Jn U) U U U ?_))))))
 refine Kh (want := true) U U U U U U (fun hg62 => ?_) (fun hg62 => ?_)
 have hg62d := odt hg62
 refine Jd (Je (Jn U)) U U U (Js U U U U hg62 (Jd (Je (Mp U)) U U U (Jd (Jo U hg62 U) U U U (Jd (Ji U) U U U (Ja ?_)))))
 refine Ki (()) (trivial) ⟨(congrArg Value.bool (by first | (simp_all [badE,isEmptyS]; done) | (simp_all [badE,isEmptyS]; omega))),trivial⟩ ⟨U,U,U,O⟩ ⟨_,U⟩
 have hg62d := odf hg62
 refine Jj U U U U hg62 U U (Jd (Jp U hg62 U) U U U (Jd (Ji U) U U U (Ja ?_)))
 refine Ki (()) (trivial) ⟨(congrArg Value.bool (by first | (simp_all [badE,isEmptyS]; done) | (simp_all [badE,isEmptyS]; omega))),trivial⟩ ⟨U,U,U,O⟩ ⟨_,U⟩
 have hg49d := hg49
 refine Jj U U U U hg49 U U (Jd (Jp U hg49 U) U U U (Jd (Jn U) U U U (Jj U U U U U U U (Jj U U U U U U U (Jd (Jp U U U) U U U (Jd (Ji U) U U U (Ja (hN17 _ _ ?_))))))))
 refine Jb [(1,.pointer _),(3,.bool _),(4,.bool _),(6,.bool _),(27,.bool _)] ⟨U,U,U,U,U,O⟩ fun σ => ?_
 refine Jt (b := _) U (fun hc27 => ?_) (fun hc27 => ?_)
 have hb := hc27
 refine Jw ?_
 refine Ki (()) (trivial) ⟨(congrArg Value.bool (by first | (simp_all [badE,isEmptyS]; done) | (simp_all [badE,isEmptyS]; omega))),trivial⟩ ⟨U,U,U,O⟩ ⟨_,U⟩
 have hb : ¬ _ := Bool.eq_false_iff.1 hc27
 refine Jk (Jd (Jc Up U) U U U (Jd (Jc Qg U) U U U (Jd (Jq Tryz.isAgg25 U (Jm 0 U U)) U U U (Jd (Ks Tryz.underlying25 U) U U U (Jd (Mh U U) U U U (Jd (Jn U) U U U ?_))))))
 refine Kh (want := true) U U U U U U (fun hg62 => ?_) (fun hg62 => ?_)
 have hg62d := odt hg62
 refine Jd (Je (Jn U)) U U U (Js U U U U hg62 (Jd (Je (Mp U)) U U U (Jd (Jo U hg62 U) U U U (Jd (Ji U) U U U (Ja ?_)))))
 refine Ki (()) (trivial) ⟨(congrArg Value.bool (by first | (simp_all [badE,isEmptyS]; done) | (simp_all [badE,isEmptyS]; omega))),trivial⟩ ⟨U,U,U,O⟩ ⟨_,U⟩
 have hg62d := odf hg62
 refine Jj U U U U hg62 U U (Jd (Jp U hg62 U) U U U (Jd (Ji U) U U U (Ja ?_)))
 refine Ki (()) (trivial) ⟨(congrArg Value.bool (by first | (simp_all [badE,isEmptyS]; done) | (simp_all [badE,isEmptyS]; omega))),trivial⟩ ⟨U,U,U,O⟩ ⟨_,U⟩
 intro g hcut σ
 refine hN7 _ _ ?_
 refine Jt (b := _) U (fun hc27 => ?_) (fun hc27 => ?_)
 have hb := hc27
 refine Jg fun N18 hN18 => Jk (Jd (Jh U) U U U (Ja (hN18 _ _ (gT [box b1 _] U (Jb [(2,.int _ _)] ⟨U,O⟩ fun σ => ?_)))))
 refine Ke fun w1 hM => ?_
 refine ⟨_,res1 rfl (rt (v := .int _ _) rfl),?_⟩
 exact ⟨by rw [formC,if_neg hK,if_pos hb],hM.low⟩
 have hb : ¬ _ := Bool.eq_false_iff.1 hc27
 refine Jg fun N19 hN19 => Jk (Jd (Jc fa29_1 U) U U U (Jd (Jq Tryz.isAgg3 U (Jm 0 U U)) U U U (Jd (Me U U) U U U (Jd (Jn U) U U U ?_))))
 refine Kh (want := false) U U U U U U (fun hg70 => ?_) (fun hg70 => ?_)
 have hg70d := odf hg70
 refine Jd (Je (Jc fa29_1 U)) U U U (Js U U U U hg70 (Jd (Je (Jq Tryz.isAgg3 U (Jm 0 U U))) U U U (Js U U U U hg70 (Jd (Je (Mh U U)) U U U (Jd (Jp U hg70 U) U U U (Jd (Ji U) U U U (Ja (hN19 _ _ ?_))))))))
 refine gT [box b1 _] U (Jb [(1,.pointer _),(3,.bool _),(4,.bool _),(66,.bool _)] ⟨U,U,U,U,O⟩ fun σ => ?_)
 refine Jt (b := _) U (fun hc66 => ?_) (fun hc66 => ?_)
 replace hc66 := odt hc66
 refine Jg fun N20 hN20 => Jk (Jd (Jh U) U U U (Ja (hN20 _ _ (Jb [(2,.int _ _)] ⟨U,O⟩ fun σ => ?_))))
 refine Ke fun w1 hM => ?_
 refine ⟨_,res1 rfl (rt (v := .int _ _) rfl),?_⟩
 exact ⟨by rw [formC,if_neg hK,if_neg hb,if_pos (show x.user < 0 ∨ 7 < x.user by omega)],hM.low⟩
 replace hc66 := odf hc66
 have hU : ¬ (x.user < 0 ∨ 7 < x.user) := by omega
 refine Jw (hN6 _ _ (Jb [(1,.pointer _),(3,.bool _),(4,.bool _)] ⟨U,U,U,O⟩ fun σ => Jg fun N21 hN21 => Jg fun N22 hN22 => Jk (Jd (Jn U) U U U (Jd (Jn U) U U U ?_))))
 refine Kh (want := false) U U U U U U (fun hg76 => ?_) (fun hg76 => ?_)
 have hg76d := odf hg76
 refine Jd (Je (Jn U)) U U U (Jd (Jp U hg76 U) U U U (Ja (hN22 _ _ (Jb [(1,.pointer _),(78,.bool _)] ⟨U,U,O⟩ fun σ => ?_))))
 refine Jt (b := _) U (fun hc78 => ?_) (fun hc78 => ?_)
 replace hc78 := odt hc78
 have hO : x.kind = 1 ∨ x.kind = 2 := by omega
 refine Jg fun N23 hN23 => Jg fun N24 hN24 => Jk (Jd (Jc Yh U) U U U (Jd (Jq Tryz.isAgg9 U (Jm 0 U U)) U U U (Jd (Ur U U) U U U (Ja (hN24 _ _ (Jb [(1,.pointer _),(81,.bool _)] ⟨U,U,O⟩ fun σ => ?_))))))
 refine Jt (b := _) U (fun hc81 => ?_) (fun hc81 => ?_)
 have hE : isEmptyS x.text = true := hc81
 refine Jg fun N25 hN25 => Jk (Jd (Jh U) U U U (Ja (hN25 _ _ (Jb [(2,.int _ _)] ⟨U,O⟩ fun σ => ?_))))
 refine Ke fun w1 hM => ?_
 refine ⟨_,res1 rfl (rt (v := .int _ _) rfl),?_⟩
 exact ⟨by rw [formC,if_neg hK,if_neg hb,if_neg hU,if_pos hO,if_pos hE],hM.low⟩
 have hE : ¬ isEmptyS x.text = true := Bool.eq_false_iff.1 hc81
 refine Jw (hN23 _ _ (Jb [(1,.pointer _)] ⟨U,O⟩ fun σ => Jg fun N26 hN26 => Jk (Jd (Jc Yh U) U U U (Jd (Jq Tryz.isAgg9 U (Jm 0 U U)) U U U ?_))))
 refine Qo (vs := [.string _]) (cells := #[_]) Tryz.underlying22 Tryz.sizeOf9 Tryz.zeroValue9 U (by decide) (by decide) U U U U (fun b84 hb84 => ?_)
 refine Km (Kb (vs := [.slice (some _) _ _]) Tryz.func58 U (by kernel_rfl) U) (fun w hM => Uh w _ _ [x.text] (Rdl.mono (Rdl.of_box 1 (f := strCells) (fun _ => U) hM U U) (Nat.zero_le _)) (by simp [maxLen])) U U U ?_
 refine Jd (y_field (cs := #[_,_]) U (fd33_0 _ _)) U U U (Jd (Jh U) U U U (Ja (hN26 _ _ (gT [box b1 _,box b84 _] U (Jb [(2,.int _ _)] ⟨U,O⟩ fun σ => ?_)))))
 refine Ke fun w1 hM => ?_
 refine ⟨_,res1 rfl (rt (v := .int _ _) rfl),?_⟩
 exact ⟨by rw [linesF_one,formC,if_neg hK,if_neg hb,if_neg hU,if_pos hO,if_neg hE],hM.low⟩
 replace hc78 := odf hc78
 have hO : ¬ (x.kind = 1 ∨ x.kind = 2) := by omega
 refine Jw (hN21 _ _ (Jb [] trivial fun σ => Jg fun N27 hN27 => Jk (Jd (Jh U) U U U (Ja (hN27 _ _ (Jb [(2,.int _ _)] ⟨U,O⟩ fun σ => ?_))))))
 refine Ke fun w1 hM => ?_
 refine ⟨_,res1 rfl (rt (v := .int _ _) rfl),?_⟩
 exact ⟨by rw [formC,if_neg hK,if_neg hb,if_neg hU,if_neg hO],hM.low⟩
 have hg76d := odt hg76
 refine Jd (Jo U hg76 U) U U U (Ja (hN22 _ _ (Jb [(1,.pointer _),(78,.bool _)] ⟨U,U,O⟩ fun σ => ?_)))
 refine Jt (b := _) U (fun hc78 => ?_) (fun hc78 => ?_)
 have hO : x.kind = 1 ∨ x.kind = 2 := by omega
 refine Jg fun N28 hN28 => Jg fun N29 hN29 => Jk (Jd (Jc Yh U) U U U (Jd (Jq Tryz.isAgg9 U (Jm 0 U U)) U U U (Jd (Ur U U) U U U (Ja (hN29 _ _ (Jb [(1,.pointer _),(81,.bool _)] ⟨U,U,O⟩ fun σ => ?_))))))
 refine Jt (b := _) U (fun hc81 => ?_) (fun hc81 => ?_)
 have hE : isEmptyS x.text = true := hc81
 refine Jg fun N30 hN30 => Jk (Jd (Jh U) U U U (Ja (hN30 _ _ (Jb [(2,.int _ _)] ⟨U,O⟩ fun σ => ?_))))
 refine Ke fun w1 hM => ?_
 refine ⟨_,res1 rfl (rt (v := .int _ _) rfl),?_⟩
 exact ⟨by rw [formC,if_neg hK,if_neg hb,if_neg hU,if_pos hO,if_pos hE],hM.low⟩
 have hE : ¬ isEmptyS x.text = true := Bool.eq_false_iff.1 hc81
 refine Jw (hN28 _ _ (Jb [(1,.pointer _)] ⟨U,O⟩ fun σ => Jg fun N31 hN31 => Jk (Jd (Jc Yh U) U U U (Jd (Jq Tryz.isAgg9 U (Jm 0 U U)) U U U ?_))))
 refine Qo (vs := [.string _]) (cells := #[_]) Tryz.underlying22 Tryz.sizeOf9 Tryz.zeroValue9 U (by decide) (by decide) U U U U (fun b84 hb84 => ?_)
 refine Km (Kb (vs := [.slice (some _) _ _]) Tryz.func58 U (by kernel_rfl) U) (fun w hM => Uh w _ _ [x.text] (Rdl.mono (Rdl.of_box 1 (f := strCells) (fun _ => U) hM U U) (Nat.zero_le _)) (by simp [maxLen])) U U U ?_
 refine Jd (y_field (cs := #[_,_]) U (fd33_0 _ _)) U U U (Jd (Jh U) U U U (Ja (hN31 _ _ (gT [box b1 _,box b84 _] U (Jb [(2,.int _ _)] ⟨U,O⟩ fun σ => ?_)))))
 refine Ke fun w1 hM => ?_
 refine ⟨_,res1 rfl (rt (v := .int _ _) rfl),?_⟩
 exact ⟨by rw [linesF_one,formC,if_neg hK,if_neg hb,if_neg hU,if_pos hO,if_neg hE],hM.low⟩
 cases hc78
 have hg70d := odt hg70
 refine Jj U U U U hg70 U U (Jj U U U U hg70 U U (Jd (Jo U hg70 U) U U U (Jd (Ji U) U U U (Ja (hN19 _ _ (gT [box b1 _] U (Jb [(1,.pointer _),(3,.bool _),(4,.bool _),(66,.bool _)] ⟨U,U,U,U,O⟩ fun σ => ?_)))))))
 refine Jt (b := _) U (fun hc66 => ?_) (fun hc66 => ?_)
 refine Jg fun N32 hN32 => Jk (Jd (Jh U) U U U (Ja (hN32 _ _ (Jb [(2,.int _ _)] ⟨U,O⟩ fun σ => ?_))))
 refine Ke fun w1 hM => ?_
 refine ⟨_,res1 rfl (rt (v := .int _ _) rfl),?_⟩
 exact ⟨by rw [formC,if_neg hK,if_neg hb,if_pos (show x.user < 0 ∨ 7 < x.user by omega)],hM.low⟩
 cases hc66
 have hg10d := odt hg10
 refine Jj U U U U hg10 U U (Jj U U U U hg10 U U (Jd (Jo U hg10 U) U U U (Ja (hN3 _ _ (Jb [(1,.pointer _),(14,.bool _)] ⟨U,U,O⟩ fun σ => ?_)))))
 refine Jt (b := _) U (fun hc14 => ?_) (fun hc14 => ?_)
 refine Jg fun N33 hN33 => Jk (Jd (Jh U) U U U (Ja (hN33 _ _ (Jb [(2,.int _ _)] ⟨U,O⟩ fun σ => ?_))))
 refine Ke fun w1 hM => ?_
 refine ⟨_,res1 rfl (rt (v := .int _ _) rfl),?_⟩
 exact ⟨by rw [formC,if_pos (show x.kind < 1 ∨ 4 < x.kind by omega)],hM.low⟩
 cases hc14
set_option maxHeartbeats 1000000 in
theorem thread_any (w : World) (br n hc : Nat) (hA : Option Addr) (t : Int) (hcell : w.cell? ⟨br, 1, none⟩ = some (.slice hA n hc)) (hsome : 0 < n → ∃ ad, hA = some ad) : Calls Tryz.prog 60 #[.pointer (some ⟨br, 0, none⟩), .int .i64 t] w fun e w' => e = .returned (.pointer (thrP hA n t)) ∧ Below w.heap.size w w' := by
 refine Kz Tryz.func60 U Tryz.ntmps60 (leb U) ?_
 refine Jb [(0,.pointer (some ⟨br,0,none⟩)),(1,.int _ _)] ⟨U,U,O⟩ fun σ => Jg fun N1 hN1 => Jk (Jd (Kx (v := .pointer _) U) U U U (Ja (hN1 _ _ (Jb [(0,.pointer (some ⟨br,0,none⟩)),(1,.int _ _)] ⟨U,U,O⟩ fun σ => Jg fun N2 hN2 => Jg fun N3 hN3 => Jk (Jd (Jf U) U U U (Jd (Me U U) U U U (Jd (Jn U) U U U ?_)))))))
 refine Kh (want := false) U U U U U U (fun hg7 => ?_) (fun hg7 => ?_)
 have hg7d := odf hg7
 refine Jd (Je (Jf U)) U U U (Js U U U U hg7 (Jd (Je (Ju (v := .pointer (some ⟨br,0,none⟩)) U)) U U U (Js U U U U hg7 (Jd (Je (Jy U)) U U U (Js U U U U hg7 (Jd (Je (Jc Yg U)) U U U (Js U U U U hg7 (Jd (Je (Jq Tryz.isAgg31 U (Ms hcell))) U U U ?_))))))))
 refine Js U U U U hg7 (Jd (Je (Ks Tryz.underlying31 U)) U U U (Js U U U U hg7 (Jd (Je (Wj U U)) U U U (Jd (Jp U hg7 U) U U U (Ja (hN3 _ _ (Jb [(0,.pointer (some ⟨br,0,none⟩)),(1,.int _ _),(15,.bool _)] ⟨U,U,U,O⟩ fun σ => ?_)))))))
 refine Jt (b := _) U (fun hc15 => ?_) (fun hc15 => ?_)
 replace hc15 := odt hc15
 have hT : thrP hA n t = none := by rw [thrP,if_neg (by omega)]
 refine Jg fun N4 hN4 => Jk (Jd (Kx (v := .pointer _) U) U U U (Ja (hN4 _ _ (Jb [(4,.pointer _)] ⟨U,O⟩ fun σ => ?_))))
 refine Ke fun w1 hM => ?_
 refine ⟨_,res1 rfl (rt (v := .pointer _) rfl),?_⟩
 exact ⟨by rw [hT],hM.low⟩
 replace hc15 := odf hc15
 obtain ⟨ad,rfl⟩ := hsome (by omega)
 have hT : thrP (some ad) n t = some (ad.add (t.toNat * 5)) := by rw [thrP,if_pos (by omega)]; rfl
 refine Jw (hN2 _ _ (Jb [(0,.pointer (some ⟨br,0,none⟩)),(1,.int _ _)] ⟨U,U,O⟩ fun σ => Jg fun N5 hN5 => Jk (Jd (Ju (v := .pointer (some ⟨br,0,none⟩)) U) U U U (Jd (Jy U) U U U (Jd (Jc Yg U) U U U (Jd (Jq Tryz.isAgg31 U (Ms hcell)) U U U (Jd (Jf U) U U U (Jd (Jz Tryz.underlying31 Tryz.sizeOf39 U U U (by omega) (by omega)) U U U ?_))))))))
 refine Jd (Kx (v := .pointer _) U) U U U (Ja (hN5 _ _ (Jb [(4,.pointer _)] ⟨U,O⟩ fun σ => ?_)))
 refine Ke fun w1 hM => ?_
 refine ⟨_,res1 rfl (rt (v := .pointer _) rfl),?_⟩
 exact ⟨by rw [hT],hM.low⟩
 have hg7d := odt hg7
 refine Jj U U U U hg7 U U (Jj U U U U hg7 U U (Jj U U U U hg7 U U (Jj U U U U hg7 U U (Jj U U U U hg7 U U (Jj U U U U hg7 U U (Jd (Jo U hg7 U) U U U (Ja (hN3 _ _ ?_))))))))
 refine Jb [(0,.pointer (some ⟨br,0,none⟩)),(1,.int _ _),(15,.bool _)] ⟨U,U,U,O⟩ fun σ => ?_
 refine Jt (b := _) U (fun hc15 => ?_) (fun hc15 => ?_)
 have hT : thrP hA n t = none := by rw [thrP,if_neg (by omega)]
 refine Jg fun N6 hN6 => Jk (Jd (Kx (v := .pointer _) U) U U U (Ja (hN6 _ _ (Jb [(4,.pointer _)] ⟨U,O⟩ fun σ => ?_))))
 refine Ke fun w1 hM => ?_
 refine ⟨_,res1 rfl (rt (v := .pointer _) rfl),?_⟩
 exact ⟨by rw [hT],hM.low⟩
 cases hc15
end Go.Proofs.YtbkameioedmlkaaGreatDoor
