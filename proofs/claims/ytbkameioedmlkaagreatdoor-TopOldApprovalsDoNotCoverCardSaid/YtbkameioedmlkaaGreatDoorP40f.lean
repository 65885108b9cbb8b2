/- Own frame, plain models and walks, part 6 (texts of this claim put together). -/
import Derived.Test.YtbkameioedmlkaaGreatDoorP40e
import Derived.Laws.Slices
import Derived.Lib.AppendZerosOnto
import Derived.Lib.Overlaps
namespace Go.Proofs.YtbkameioedmlkaaGreatDoor
open Go.RowKit Go.Cf
set_option maxRecDepth 10000
theorem fa51_0 (a : Addr) (w : World) : (Instr.fieldAt 51 (.pointer (some a)) 0).run Tryz.prog w = .ok (.pointer (some (a.add 0))) w := by kernel_rfl
theorem fa51_1 (a : Addr) (w : World) : (Instr.fieldAt 51 (.pointer (some a)) 1).run Tryz.prog w = .ok (.pointer (some (a.add 1))) w := by kernel_rfl
theorem fa51_2 (a : Addr) (w : World) : (Instr.fieldAt 51 (.pointer (some a)) 2).run Tryz.prog w = .ok (.pointer (some (a.add 2))) w := by kernel_rfl
theorem bd135_0_1 (x1 : Int) (x2 : Bool) : Tryz.prog.built 135 [(0, .int .i64 x1), (1, .bool x2)] = some #[.int .i64 x1, .bool x2] := by kernel_rfl
theorem fa135_1 (a : Addr) (w : World) : (Instr.fieldAt 135 (.pointer (some a)) 1).run Tryz.prog w = .ok (.pointer (some (a.add 1))) w := by kernel_rfl
theorem fa135_0 (a : Addr) (w : World) : (Instr.fieldAt 135 (.pointer (some a)) 0).run Tryz.prog w = .ok (.pointer (some (a.add 0))) w := by kernel_rfl
set_option maxHeartbeats 1000000 in
theorem votesValidate_any (w : World) (A : Option Addr) (c : Nat) (l : List Vote) (B : Option Addr) (c2 : Nat) (tr : List Bool) (hv : Rdl w 0 3 voteCells A l) (ht : Rdl w 0 1 boolCells B tr) (hl : l.length ≤ maxLen) (htl : tr.length ≤ maxLen) (_hcc : tr.length ≤ c2) : Calls Tryz.prog 97 #[.slice A l.length c, .slice B tr.length c2] w fun e w' => e = .returned (fv (Votes.validate l tr)) ∧ Below w.heap.size w w' := by
 unfold maxLen at hl htl
 refine Kz Tryz.func97 U Tryz.ntmps97 (leb U) ?_
 refine Jb [(0,.slice _ _ _),(1,.slice _ _ _)] ⟨U,U,O⟩ fun σ => Jg fun N1 hN1 => Jk ?_
 refine Ka (cs := #[.int .i64 0,.int .i64 0]) Tryz.zeroValue33 U U (fun b4 hb4 => ?_)
 refine Ja (hN1 _ _ (gT [box b4 _] U (Jb [(0,.slice _ _ _),(1,.slice _ _ _),(4,.pointer _)] ⟨U,U,U,O⟩ fun σ => Jg fun N2 hN2 => Jg fun N3 hN3 => Jk (Jd (Kl U) U U U (Jd (Ks Tryz.underlying49 U) U U U (Jd (Mh U U) U U U (Ja (hN3 _ _ ?_))))))))
 refine Jb [(0,.slice _ _ _),(1,.slice _ _ _),(4,.pointer _),(9,.bool _)] ⟨U,U,U,U,O⟩ fun σ => ?_
 refine Jt (b := _) U (fun hc9 => ?_) (fun hc9 => ?_)
 replace hc9 := odt hc9
 refine Jg fun N4 hN4 => Jk (Jd (Kd (vs := [(0,_),(1,_)]) (cells := #[_,_]) U (Ma _ _)) U U U (Jr 0 (v := .agg #[_,_]) (cs' := #[_,_]) U U Tryz.sizeOf33 U U U U (leb U) U U (Ja (hN4 _ _ (gT [box b4 _] U (Jb [(4,.pointer _)] ⟨U,O⟩ fun σ => ?_))))))
 refine Ke fun w1 hM => ?_
 refine ⟨_,res1 rfl (rc 0 (cs := [_,_]) hM rfl rfl Tryz.isAgg33 Tryz.sizeOf33 rfl),?_⟩
 exact ⟨by rw [Votes.validate,if_pos (by omega)],hM.low⟩
 replace hc9 := odf hc9
 refine Jw (hN2 _ _ (Jb [(0,.slice _ _ _),(1,.slice _ _ _),(4,.pointer _)] ⟨U,U,U,O⟩ fun σ => Jg fun N5 hN5 => Jg fun N6 hN6 => Jk (Jd (Kl U) U U U (Jd (Ks Tryz.underlying46 U) U U U (Jd (Mc U U) U U U (Jd (Jn U) U U U ?_))))))
 refine Kh (want := false) U U U U U U (fun hg14 => ?_) (fun hg14 => ?_)
 have hg14d := odf hg14
 refine Jd (Je (Kl U)) U U U (Js U U U U hg14 (Jd (Je (Ks Tryz.underlying46 U)) U U U (Js U U U U hg14 (Jd (Je (Mh U U)) U U U (Jd (Jp U hg14 U) U U U (Ja (hN6 _ _ (Jb [(0,.slice _ _ _),(1,.slice _ _ _),(4,.pointer _),(18,.bool _)] ⟨U,U,U,U,O⟩ fun σ => ?_))))))))
 refine Jt (b := _) U (fun hc18 => ?_) (fun hc18 => ?_)
 replace hc18 := odt hc18
 refine Jg fun N7 hN7 => Jk (Jd (Kd (vs := [(0,_),(1,_)]) (cells := #[_,_]) U (Ma _ _)) U U U (Jr 0 (v := .agg #[_,_]) (cs' := #[_,_]) U U Tryz.sizeOf33 U U U U (leb U) U U (Ja (hN7 _ _ (gT [box b4 _] U (Jb [(4,.pointer _)] ⟨U,O⟩ fun σ => ?_))))))
 refine Ke fun w1 hM => ?_
 refine ⟨_,res1 rfl (rc 0 (cs := [_,_]) hM rfl rfl Tryz.isAgg33 Tryz.sizeOf33 rfl),?_⟩
 exact ⟨by rw [Votes.validate,if_neg (by omega),if_pos (by omega)],hM.low⟩
 replace hc18 := odf hc18
 obtain ⟨adt,rfl,-,hct⟩ := ht.at_ (k := 0) (by omega)
 simp only [Nat.zero_mul,Nat.zero_add] at hct
 refine Jw (hN5 _ _ (Jb [(0,.slice _ _ _),(1,.slice _ _ _),(4,.pointer _)] ⟨U,U,U,O⟩ fun σ => Jg fun N8 hN8 => Jg fun N9 hN9 => Jk (Jd (Kl U) U U U (Jd (Jz Tryz.underlying46 Tryz.sizeOf4 U U U (by omega) (by omega)) U U U (Jd (Jq Tryz.isAgg4 U (Ms (hct 0 _ U))) U U U (Ja (hN9 _ _ (Jb [(0,.slice _ _ _),(1,.slice _ _ _),(4,.pointer _),(22,.bool _)] ⟨U,U,U,U,O⟩ fun σ => ?_))))))))
 refine Jt (b := _) U (fun hc22 => ?_) (fun hc22 => ?_)
 refine Jg fun N10 hN10 => Jk (Jd (Kd (vs := [(0,_),(1,_)]) (cells := #[_,_]) U (Ma _ _)) U U U (Jr 0 (v := .agg #[_,_]) (cs' := #[_,_]) U U Tryz.sizeOf33 U U U U (leb U) U U (Ja (hN10 _ _ (gT [box b4 _] U (Jb [(4,.pointer _)] ⟨U,O⟩ fun σ => ?_))))))
 refine Ke fun w1 hM => ?_
 refine ⟨_,res1 rfl (rc 0 (cs := [_,_]) hM rfl rfl Tryz.isAgg33 Tryz.sizeOf33 rfl),?_⟩
 exact ⟨by rw [Votes.validate,if_neg (by omega),if_neg (by omega),if_pos (by rw [← hc22]; simp [List.getD_eq_getElem?_getD,List.getElem?_eq_getElem (show 0 < tr.length by omega)])],hM.low⟩
 have hfst : ¬ tr.getD 0 false = true := by rw [show tr.getD 0 false = tr[0] from by simp [List.getD_eq_getElem?_getD,List.getElem?_eq_getElem (show 0 < tr.length by omega)],hc22]; simp
 refine Jw (hN8 _ _ (Jb [(0,.slice _ _ _),(1,.slice _ _ _),(4,.pointer _)] ⟨U,U,U,O⟩ fun σ => Jg fun N11 hN11 => Jg fun N12 hN12 => Jk (Jd (Kl U) U U U (Jd (Ks Tryz.underlying49 U) U U U (Jd (Jf U) U U U (Ja (hN12 _ _ (Jb [(0,.slice _ _ _),(1,.slice _ _ _),(4,.pointer _),(24,.slice _ _ _),(25,.int _ _),(26,.int _ _)] ⟨U,U,U,U,U,U,O⟩ fun σ => ?_))))))))
 refine Kn ?_
 refine Mm [(26,.int _ _)] [(0,.slice _ _ _),(1,.slice _ _ _),(4,.pointer _),(24,.slice _ _ _),(25,.int _ _)] ⟨U,O⟩ ⟨U,U,U,U,U,O⟩ fun σ => ?_
 refine Ml (G := Nat) (fun k => k ≤ l.length ∧ Votes.valGo tr.length 0 0 l = Votes.valGo tr.length k (Votes.prevRev l k) (l.drop k)) (fun k => l.length - k) (fun k => [(26,.int .i64 (k : Int))]) (fun k => []) (0) ?h0 ⟨U,O⟩ ⟨U,U,U,U,U,O⟩ U ?round
 case h0 => exact ⟨Nat.zero_le _,rfl⟩
 case round =>
  intro k hφ σ
  obtain ⟨hk,hgo⟩ := hφ
  refine Jg fun N13 hN13 => Jk (Jd (Me U U) U U U (Ja (hN13 _ _ (Jb [(0,.slice _ _ _),(1,.slice _ _ _),(4,.pointer _),(24,.slice _ _ _),(25,.int _ _),(26,.int _ _),(27,.bool _)] ⟨U,U,U,U,U,U,U,O⟩ fun σ => Jg fun N14 hN14 => ?_))))
  refine Jt (b := _) U (fun hc27 => ?_) (fun hc27 => ?_)
  replace hc27 := odt hc27
  have hk1 : k < l.length := by omega
  obtain ⟨ad,rfl,-,hcv⟩ := hv.at_ hk1
  have hst := Votes.valGo_step tr.length l k (Votes.prevRev l k) hk1
  refine Jw (hN14 _ _ (Jb [(0,.slice _ _ _),(1,.slice _ _ _),(4,.pointer _),(24,.slice _ _ _),(25,.int _ _),(26,.int _ _)] ⟨U,U,U,U,U,U,O⟩ fun σ => Jg fun N15 hN15 => Kn (Jg fun N16 hN16 => Jk (Jd (Jf U) U U U (Jd (Jz Tryz.underlying49 Tryz.sizeOf51 U U U (by omega) (by omega)) U U U (Jd (Kk (cs := [_,_,_]) Tryz.isAgg51 Tryz.sizeOf51 U U (Mv hcv)) U U U ?_))))))
  refine Ka (cs := #[.int .i64 0,.int .i64 0,.int .i64 0]) Tryz.zeroValue51 U U (fun b6 hb6 => ?_)
  refine Jd (Jh U) U U U (Jr 1 (v := .agg #[_,_,_]) (cs' := #[_,_,_]) U U Tryz.sizeOf51 U U U U (leb U) U U (Ja (hN16 _ _ (gT [box b4 _,box b6 _] U (Jb [(0,.slice _ _ _),(1,.slice _ _ _),(4,.pointer _),(5,.int _ _),(6,.pointer _),(24,.slice _ _ _),(25,.int _ _),(26,.int _ _)] ⟨U,U,U,U,U,U,U,U,O⟩ fun σ => Jg fun N17 hN17 => Jg fun N18 hN18 => Jk (Jd (Jc fa51_0 U) U U U (Jd (Jq Tryz.isAgg3 U (Jm 1 U U)) U U U (Jd (Me U U) U U U ?_))))))))
  refine Jd (Jn U) U U U ?_
  refine Kh (want := false) U U U U U U (fun hg34 => ?_) (fun hg34 => ?_)
  have hg34d := odf hg34
  refine Jd (Je (Jc fa51_0 U)) U U U (Js U U U U hg34 (Jd (Je (Jq Tryz.isAgg3 U (Jm 1 U U))) U U U (Js U U U U hg34 (Jd (Je (Mh U U)) U U U (Jd (Jp U hg34 U) U U U (Jd (Jn U) U U U ?_))))))
  refine Kh (want := false) U U U U U U (fun hg39 => ?_) (fun hg39 => ?_)
  have hg39d := odf hg39
  refine Jd (Je (Jc fa51_1 U)) U U U (Js U U U U hg39 (Jd (Je (Jq Tryz.isAgg3 U (Jm 1 U U))) U U U (Js U U U U hg39 (Jd (Je (Me U U)) U U U (Jd (Jp U hg39 U) U U U (Jd (Jn U) U U U ?_))))))
  refine Kh (want := false) U U U U U U (fun hg44 => ?_) (fun hg44 => ?_)
  have hg44d := odf hg44
  refine Jd (Je (Jc fa51_1 U)) U U U (Js U U U U hg44 (Jd (Je (Jq Tryz.isAgg3 U (Jm 1 U U))) U U U (Js U U U U hg44 (Jd (Je (Kl U)) U U U (Js U U U U hg44 (Jd (Je (Ks Tryz.underlying46 U)) U U U (Js U U U U hg44 (Jd (Je (Wj U U)) U U U ?_))))))))
  refine Jd (Jp U hg44 U) U U U (Jd (Jn U) U U U ?_)
  refine Kh (want := false) U U U U U U (fun hg51 => ?_) (fun hg51 => ?_)
  have hg51d := odf hg51
  refine Jd (Je (Jc fa51_2 U)) U U U (Js U U U U hg51 (Jd (Je (Jq Tryz.isAgg3 U (Jm 1 U U))) U U U (Js U U U U hg51 (Jd (Je (Me U U)) U U U (Jd (Jp U hg51 U) U U U (Jd (Jn U) U U U ?_))))))
  refine Kh (want := false) U U U U U U (fun hg56 => ?_) (fun hg56 => ?_)
  have hg56d := odf hg56
  refine Jd (Je (Jc fa51_2 U)) U U U (Js U U U U hg56 (Jd (Je (Jq Tryz.isAgg3 U (Jm 1 U U))) U U U (Js U U U U hg56 (Jd (Je (Mh U U)) U U U (Jd (Jp U hg56 U) U U U (Ja (hN18 _ _ (Jb [(0,.slice _ _ _),(1,.slice _ _ _),(4,.pointer _),(5,.int _ _),(6,.pointer _),(24,.slice _ _ _),(25,.int _ _),(26,.int _ _),(60,.bool _)] ⟨U,U,U,U,U,U,U,U,U,O⟩ fun σ => ?_))))))))
  refine Jt (b := _) U (fun hc60 => ?_) (fun hc60 => ?_)
  replace hc60 := odt hc60
  refine Jg fun N19 hN19 => Jk (Jd (Jf U) U U U (Jd (Kd (vs := [(0,_),(1,.int _ _)]) (cells := #[_,_]) U (Ma _ _)) U U U (Jr 0 (v := .agg #[_,_]) (cs' := #[_,_]) U U Tryz.sizeOf33 U U U U (leb U) U U (Ja (hN19 _ _ (gT [box b4 _,box b6 _] U (Jb [(4,.pointer _)] ⟨U,O⟩ fun σ => ?_)))))))
  refine Ke fun w1 hM => ?_
  refine ⟨_,res1 rfl (rc 0 (cs := [_,_]) hM rfl rfl Tryz.isAgg33 Tryz.sizeOf33 rfl),?_⟩
  exact ⟨by rw [Votes.validate,if_neg (by omega),if_neg (by omega),if_neg hfst,hgo,hst,if_pos (by unfold Votes.Bad; omega)],hM.low⟩
  replace hc60 := odf hc60
  have hbad : ¬ Votes.Bad tr.length l[k] := by unfold Votes.Bad; omega
  refine Jw (hN17 _ _ (Jb [(0,.slice _ _ _),(1,.slice _ _ _),(4,.pointer _),(5,.int _ _),(6,.pointer _),(24,.slice _ _ _),(25,.int _ _),(26,.int _ _)] ⟨U,U,U,U,U,U,U,U,O⟩ fun σ => Jg fun N20 hN20 => ?_))
  refine Qx (by kernel_rfl) (by kernel_rfl) ?_
  refine gq (Jf U) U U U (gq (Mh U U) U U U (gq (Jn U) U U U ?_))
  refine Xb (want := true) U U U U U U (fun hg65 => ?_) (fun hg65 => ?_)
  have hg65d := odt hg65
  obtain ⟨ad2,e2,-,hcp⟩ := hv.at_ (k := k - 1) (by omega)
  injection e2 with e2
  subst e2
  have hpr := Votes.prevRev_at l k (by omega) (by omega)
  refine gq (Je (Jc fa51_1 U)) U U U (Kp U U U U hg65 (gq (Je (Jq Tryz.isAgg3 U (Jm 1 U U))) U U U (Kp U U U U hg65 (gq (Je (Kl U)) U U U (Kp U U U U hg65 (gq (Je (Jf U)) U U U (Kp U U U U hg65 (gq (Je (Zi U U ⟨by omega,by omega⟩)) U U U ?_))))))))
  refine Kp U U U U hg65 (gq (Je (Jz (m := k - 1) Tryz.underlying49 Tryz.sizeOf51 U U (by omega) (by omega) (by omega))) U U U (Kp U U U U hg65 (gq (Je (Kv fa51_1 U)) U U U (Kp U U U U hg65 (gq (Je (Jq Tryz.isAgg3 U (Ms (hcp 1 _ U)))) U U U (Kp U U U U hg65 (gq (Je (Me U U)) U U U (gq (Jo U hg65 U) U U U ?_))))))))
  refine Mn ?_
  refine hN20 _ _ (Jb [(0,.slice _ _ _),(1,.slice _ _ _),(4,.pointer _),(5,.int _ _),(24,.slice _ _ _),(25,.int _ _),(26,.int _ _),(75,.bool _)] ⟨U,U,U,U,U,U,U,U,O⟩ fun σ => ?_)
  refine Jt (b := _) U (fun hc75 => ?_) (fun hc75 => ?_)
  replace hc75 := odt hc75
  refine Jg fun N21 hN21 => Jk (Jd (Jf U) U U U (Jd (Kd (vs := [(0,_),(1,.int _ _)]) (cells := #[_,_]) U (Ma _ _)) U U U (Jr 0 (v := .agg #[_,_]) (cs' := #[_,_]) U U Tryz.sizeOf33 U U U U (leb U) U U (Ja (hN21 _ _ (gT [box b4 _,box b6 _] U (Jb [(4,.pointer _)] ⟨U,O⟩ fun σ => ?_)))))))
  refine Ke fun w1 hM => ?_
  refine ⟨_,res1 rfl (rc 0 (cs := [_,_]) hM rfl rfl Tryz.isAgg33 Tryz.sizeOf33 rfl),?_⟩
  exact ⟨by rw [Votes.validate,if_neg (by omega),if_neg (by omega),if_neg hfst,hgo,hst,if_neg hbad,if_pos (by omega)],hM.low⟩
  replace hc75 := odf hc75
  refine Jw (hN15 _ _ (Jb [(0,.slice _ _ _),(1,.slice _ _ _),(4,.pointer _),(24,.slice _ _ _),(25,.int _ _),(26,.int _ _)] ⟨U,U,U,U,U,U,O⟩ fun σ => Jk (Jd (Kr U U ⟨by omega,by omega⟩) U U U (Jd (Jf U) U U U (Ja ?_)))))
  refine Kt (k + 1) (by omega) (⟨by omega,by rw [hgo,hst,if_neg hbad,if_neg (by omega),Votes.prevRev_succ l k hk1]⟩) ⟨U,O⟩ ⟨U,U,U,U,U,O⟩ ⟨_,U⟩
  have hg65d := odf hg65
  have hpr : Votes.prevRev l k = 0 := by unfold Votes.prevRev; rw [if_pos (by omega)]
  refine Kg U U U U hg65 U U (Kg U U U U hg65 U U (Kg U U U U hg65 U U (Kg U U U U hg65 U U (Kg U U U U hg65 U U (Kg U U U U hg65 U U (Kg U U U U hg65 U U (Kg U U U U hg65 U U (gq (Jp U hg65 U) U U U ?_))))))))
  refine Mn ?_
  refine hN20 _ _ (Jb [(0,.slice _ _ _),(1,.slice _ _ _),(4,.pointer _),(5,.int _ _),(24,.slice _ _ _),(25,.int _ _),(26,.int _ _),(75,.bool _)] ⟨U,U,U,U,U,U,U,U,O⟩ fun σ => ?_)
  refine Jt (b := _) U (fun hc75 => ?_) (fun hc75 => ?_)
  cases hc75
  refine Jw (hN15 _ _ (Jb [(0,.slice _ _ _),(1,.slice _ _ _),(4,.pointer _),(24,.slice _ _ _),(25,.int _ _),(26,.int _ _)] ⟨U,U,U,U,U,U,O⟩ fun σ => Jk (Jd (Kr U U ⟨by omega,by omega⟩) U U U (Jd (Jf U) U U U (Ja ?_)))))
  refine Kt (k + 1) (by omega) (⟨by omega,by rw [hgo,hst,if_neg hbad,if_neg (by omega),Votes.prevRev_succ l k hk1]⟩) ⟨U,O⟩ ⟨U,U,U,U,U,O⟩ ⟨_,U⟩
  have hg56d := odt hg56
  refine Jj U U U U hg56 U U (Jj U U U U hg56 U U (Jd (Jo U hg56 U) U U U (Ja (hN18 _ _ (Jb [(0,.slice _ _ _),(1,.slice _ _ _),(4,.pointer _),(5,.int _ _),(6,.pointer _),(24,.slice _ _ _),(25,.int _ _),(26,.int _ _),(60,.bool _)] ⟨U,U,U,U,U,U,U,U,U,O⟩ fun σ => ?_)))))
  refine Jt (b := _) U (fun hc60 => ?_) (fun hc60 => ?_)
  refine Jg fun N22 hN22 => Jk (Jd (Jf U) U U U (Jd (Kd (vs := [(0,_),(1,.int _ _)]) (cells := #[_,_]) U (Ma _ _)) U U U (Jr 0 (v := .agg #[_,_]) (cs' := #[_,_]) U U Tryz.sizeOf33 U U U U (leb U) U U (Ja (hN22 _ _ (gT [box b4 _,box b6 _] U (Jb [(4,.pointer _)] ⟨U,O⟩ fun σ => ?_)))))))
  refine Ke fun w1 hM => ?_
  refine ⟨_,res1 rfl (rc 0 (cs := [_,_]) hM rfl rfl Tryz.isAgg33 Tryz.sizeOf33 rfl),?_⟩
  exact ⟨by rw [Votes.validate,if_neg (by omega),if_neg (by omega),if_neg hfst,hgo,hst,if_pos (by unfold Votes.Bad; omega)],hM.low⟩
  cases hc60
  have hg51d := odt hg51
  refine Jj U U U U hg51 U U (Jj U U U U hg51 U U (Jd (Jo U hg51 U) U U U (Jd (Jn U) U U U (Jj U U U U U U U (Jj U U U U U U U (Jj U U U U U U U (Jd (Jo U U U) U U U (Ja ?_))))))))
  refine hN18 _ _ (Jb [(0,.slice _ _ _),(1,.slice _ _ _),(4,.pointer _),(5,.int _ _),(6,.pointer _),(24,.slice _ _ _),(25,.int _ _),(26,.int _ _),(60,.bool _)] ⟨U,U,U,U,U,U,U,U,U,O⟩ fun σ => ?_)
  refine Jt (b := _) U (fun hc60 => ?_) (fun hc60 => ?_)
  refine Jg fun N23 hN23 => Jk (Jd (Jf U) U U U (Jd (Kd (vs := [(0,_),(1,.int _ _)]) (cells := #[_,_]) U (Ma _ _)) U U U (Jr 0 (v := .agg #[_,_]) (cs' := #[_,_]) U U Tryz.sizeOf33 U U U U (leb U) U U (Ja (hN23 _ _ (gT [box b4 _,box b6 _] U (Jb [(4,.pointer _)] ⟨U,O⟩ fun σ => ?_)))))))
  refine Ke fun w1 hM => ?_
  refine ⟨_,res1 rfl (rc 0 (cs := [_,_]) hM rfl rfl Tryz.isAgg33 Tryz.sizeOf33 rfl),?_⟩
  exact ⟨by rw [Votes.validate,if_neg (by omega),if_neg (by omega),if_neg hfst,hgo,hst,if_pos (by unfold Votes.Bad; omega)],hM.low⟩
  cases hc60
  have hg44d := odt hg44
  refine Jj U U U U hg44 U U (Jj U U U U hg44 U U (Jj U U U U hg44 U U (Jj U U U U hg44 U U (Jd (Jo U hg44 U) U U U (Jd (Jn U) U U U (Jj U U U U U U U (Jj U U U U U U U (Jj U U U U U U U ?_))))))))
  refine Jd (Jo U U U) U U U (Jd (Jn U) U U U (Jj U U U U U U U (Jj U U U U U U U (Jj U U U U U U U (Jd (Jo U U U) U U U (Ja (hN18 _ _ (Jb [(0,.slice _ _ _),(1,.slice _ _ _),(4,.pointer _),(5,.int _ _),(6,.pointer _),(24,.slice _ _ _),(25,.int _ _),(26,.int _ _),(60,.bool _)] ⟨U,U,U,U,U,U,U,U,U,O⟩ fun σ => ?_))))))))
  refine Jt (b := _) U (fun hc60 => ?_) (fun hc60 => ?_)
  refine Jg fun N24 hN24 => Jk (Jd (Jf U) U U U (Jd (Kd (vs := [(0,_),(1,.int _ _)]) (cells := #[_,_]) U (Ma _ _)) U U U (Jr 0 (v := .agg #[_,_]) (cs' := #[_,_]) U U Tryz.sizeOf33 U U U U (leb U) U U (Ja (hN24 _ _ (gT [box b4 _,box b6 _] U (Jb [(4,.pointer _)] ⟨U,O⟩ fun σ => ?_)))))))
  refine Ke fun w1 hM => ?_
  refine ⟨_,res1 rfl (rc 0 (cs := [_,_]) hM rfl rfl Tryz.isAgg33 Tryz.sizeOf33 rfl),?_⟩
  exact ⟨by rw [Votes.validate,if_neg (by omega),if_neg (by omega),if_neg hfst,hgo,hst,if_pos (by unfold Votes.Bad; omega)],hM.low⟩
  cases hc60
  have hg39d := odt hg39
  refine Jj U U U U hg39 U U (Jj U U U U hg39 U U (Jd (Jo U hg39 U) U U U (Jd (Jn U) U U U (Jj U U U U U U U (Jj U U U U U U U (Jj U U U U U U U (Jj U U U U U U U (Jj U U U U U U U ?_))))))))
  refine Jd (Jo U U U) U U U (Jd (Jn U) U U U (Jj U U U U U U U (Jj U U U U U U U (Jj U U U U U U U (Jd (Jo U U U) U U U (Jd (Jn U) U U U (Jj U U U U U U U (Jj U U U U U U U ?_))))))))
  refine Jj U U U U U U U (Jd (Jo U U U) U U U (Ja (hN18 _ _ (Jb [(0,.slice _ _ _),(1,.slice _ _ _),(4,.pointer _),(5,.int _ _),(6,.pointer _),(24,.slice _ _ _),(25,.int _ _),(26,.int _ _),(60,.bool _)] ⟨U,U,U,U,U,U,U,U,U,O⟩ fun σ => ?_))))
  refine Jt (b := _) U (fun hc60 => ?_) (fun hc60 => ?_)
  refine Jg fun N25 hN25 => Jk (Jd (Jf U) U U U (Jd (Kd (vs := [(0,_),(1,.int _ _)]) (cells := #[_,_]) U (Ma _ _)) U U U (Jr 0 (v := .agg #[_,_]) (cs' := #[_,_]) U U Tryz.sizeOf33 U U U U (leb U) U U (Ja (hN25 _ _ (gT [box b4 _,box b6 _] U (Jb [(4,.pointer _)] ⟨U,O⟩ fun σ => ?_)))))))
  refine Ke fun w1 hM => ?_
  refine ⟨_,res1 rfl (rc 0 (cs := [_,_]) hM rfl rfl Tryz.isAgg33 Tryz.sizeOf33 rfl),?_⟩
  exact ⟨by rw [Votes.validate,if_neg (by omega),if_neg (by omega),if_neg hfst,hgo,hst,if_pos (by unfold Votes.Bad; omega)],hM.low⟩
  cases hc60
  have hg34d := odt hg34
  refine Jj U U U U hg34 U U (Jj U U U U hg34 U U (Jd (Jo U hg34 U) U U U (Jd (Jn U) U U U (Jj U U U U U U U (Jj U U U U U U U (Jj U U U U U U U (Jd (Jo U U U) U U U (Jd (Jn U) U U U ?_))))))))
  refine Jj U U U U U U U (Jj U U U U U U U (Jj U U U U U U U (Jj U U U U U U U (Jj U U U U U U U (Jd (Jo U U U) U U U (Jd (Jn U) U U U (Jj U U U U U U U (Jj U U U U U U U ?_))))))))
  refine Jj U U U U U U U (Jd (Jo U U U) U U U (Jd (Jn U) U U U (Jj U U U U U U U (Jj U U U U U U U (Jj U U U U U U U (Jd (Jo U U U) U U U (Ja (hN18 _ _ ?_))))))))
  refine Jb [(0,.slice _ _ _),(1,.slice _ _ _),(4,.pointer _),(5,.int _ _),(6,.pointer _),(24,.slice _ _ _),(25,.int _ _),(26,.int _ _),(60,.bool _)] ⟨U,U,U,U,U,U,U,U,U,O⟩ fun σ => ?_
  refine Jt (b := _) U (fun hc60 => ?_) (fun hc60 => ?_)
  refine Jg fun N26 hN26 => Jk (Jd (Jf U) U U U (Jd (Kd (vs := [(0,_),(1,.int _ _)]) (cells := #[_,_]) U (Ma _ _)) U U U (Jr 0 (v := .agg #[_,_]) (cs' := #[_,_]) U U Tryz.sizeOf33 U U U U (leb U) U U (Ja (hN26 _ _ (gT [box b4 _,box b6 _] U (Jb [(4,.pointer _)] ⟨U,O⟩ fun σ => ?_)))))))
  refine Ke fun w1 hM => ?_
  refine ⟨_,res1 rfl (rc 0 (cs := [_,_]) hM rfl rfl Tryz.isAgg33 Tryz.sizeOf33 rfl),?_⟩
  exact ⟨by rw [Votes.validate,if_neg (by omega),if_neg (by omega),if_neg hfst,hgo,hst,if_pos (by unfold Votes.Bad; omega)],hM.low⟩
  cases hc60
  replace hc27 := odf hc27
  refine Mx ?_
  refine hN11 _ _ (Jb [(4,.pointer _)] ⟨U,O⟩ fun σ => Jg fun N27 hN27 => Jk (Jd (Kd (vs := []) (cells := #[.int .i64 0,.int .i64 0]) U Qh) U U U (Jr 0 (v := .agg #[_,_]) (cs' := #[_,_]) U U Tryz.sizeOf33 U U U U (leb U) U U (Ja (hN27 _ _ (gT [box b4 _] U (Jb [(4,.pointer _)] ⟨U,O⟩ fun σ => ?_)))))))
  refine Ke fun w1 hM => ?_
  refine ⟨_,res1 rfl (rc 0 (cs := [_,_]) hM rfl rfl Tryz.isAgg33 Tryz.sizeOf33 rfl),?_⟩
  exact ⟨by rw [Votes.validate,if_neg (by omega),if_neg (by omega),if_neg hfst,hgo,List.drop_of_length_le (by omega)]; rfl,hM.low⟩
 have hg14d := odt hg14
 refine Jj U U U U hg14 U U (Jj U U U U hg14 U U (Jd (Jo U hg14 U) U U U (Ja (hN6 _ _ (Jb [(0,.slice _ _ _),(1,.slice _ _ _),(4,.pointer _),(18,.bool _)] ⟨U,U,U,U,O⟩ fun σ => ?_)))))
 refine Jt (b := _) U (fun hc18 => ?_) (fun hc18 => ?_)
 refine Jg fun N28 hN28 => Jk (Jd (Kd (vs := [(0,_),(1,_)]) (cells := #[_,_]) U (Ma _ _)) U U U (Jr 0 (v := .agg #[_,_]) (cs' := #[_,_]) U U Tryz.sizeOf33 U U U U (leb U) U U (Ja (hN28 _ _ (gT [box b4 _] U (Jb [(4,.pointer _)] ⟨U,O⟩ fun σ => ?_))))))
 refine Ke fun w1 hM => ?_
 refine ⟨_,res1 rfl (rc 0 (cs := [_,_]) hM rfl rfl Tryz.isAgg33 Tryz.sizeOf33 rfl),?_⟩
 exact ⟨by rw [Votes.validate,if_neg (by omega),if_pos (by omega)],hM.low⟩
 cases hc18
set_option maxHeartbeats 1000000 in
theorem states_any (w : World) (A : Option Addr) (c : Nat) (l : List Vote) (B : Option Addr) (c2 : Nat) (tr : List Bool) (hv : Rdl w 0 3 voteCells A l) (ht : Rdl w 0 1 boolCells B tr) (hl : l.length ≤ maxLen) (htl : tr.length ≤ maxLen) (hcc : tr.length ≤ c2) (at_ : Int) : Calls Tryz.prog 65 #[.slice A l.length c, .slice B tr.length c2, .int .i64 at_] w fun e w' => e = .returned (.tuple #[.agg ((Votes.stateL l tr at_).flatMap Votes.stCells).toArray, fv (Votes.stateF l tr at_)]) ∧ Below w.heap.size w w' := by
 refine Kz Tryz.func65 U Tryz.ntmps65 (leb U) ?_
 refine Jb [(0,.slice _ _ _),(1,.slice _ _ _),(2,.int _ _)] ⟨U,U,U,O⟩ fun σ => Jg fun N1 hN1 => Jk ?_
 refine Ka (cs := ((List.replicate 8 ((0 : Int),false)).flatMap Votes.stCells).toArray) Tryz.zeroValue136 U U (fun b6 hb6 => ?_)
 refine Ka (cs := #[.int .i64 0,.int .i64 0]) Tryz.zeroValue33 U U (fun b7 hb7 => ?_)
 refine Ja (hN1 _ _ (gT [box b6 _,box b7 _] U (Jb [(0,.slice _ _ _),(1,.slice _ _ _),(2,.int _ _),(6,.pointer _),(7,.pointer _)] ⟨U,U,U,U,U,O⟩ fun σ => Jg fun N2 hN2 => Jk ?_)))
 refine Ka (cs := ((List.replicate 8 ((0 : Int),false)).flatMap Votes.stCells).toArray) Tryz.zeroValue136 U U (fun b8 hb8 => ?_)
 refine Ja (hN2 _ _ (gT [box b6 _,box b7 _,box b8 _] U (Jb [(0,.slice _ _ _),(1,.slice _ _ _),(2,.int _ _),(6,.pointer _),(7,.pointer _),(8,.pointer _)] ⟨U,U,U,U,U,U,O⟩ fun σ => Jg fun N3 hN3 => Jg fun N4 hN4 => Jk (Jd (Kl U) U U U (Jd (Kl U) U U U ?_)))))
 refine Km (Kb (vs := [.slice _ _ _,.slice _ _ _]) Tryz.func97 U (by kernel_rfl) U) (fun w hM => votesValidate_any w _ _ _ _ _ _ (hv.base hM) (ht.base hM) hl htl hcc) U U U ?_
 refine Ka (cs := #[.int .i64 0,.int .i64 0]) Tryz.zeroValue33 U U (fun b9 hb9 => ?_)
 refine Jr 3 (v := .agg #[_,_]) (cs' := #[_,_]) U U Tryz.sizeOf33 U U U U (leb U) U U (Ja (hN4 _ _ (gT [box b6 _,box b7 _,box b8 _,box b9 _] U (Jb [(0,.slice _ _ _),(1,.slice _ _ _),(2,.int _ _),(6,.pointer _),(7,.pointer _),(8,.pointer _),(9,.pointer _)] ⟨U,U,U,U,U,U,U,O⟩ fun σ => Jg fun N5 hN5 => Jk (Jd (Kk (cs := [_,_]) Tryz.isAgg33 Tryz.sizeOf33 U U (Kf 3 U)) U U U (Jd (Kd (vs := []) (cells := #[.int .i64 0,.int .i64 0]) U Qh) U U U (Jd (Uk (vx := .agg #[_,_]) (vy := .agg #[_,_]) U U (fun w => eg33 _ _ _ _ _ w) (fun w => ne33 _ _ _ _ w)) U U U (Ja ?_))))))))
 refine hN5 _ _ (Jb [(0,.slice _ _ _),(1,.slice _ _ _),(2,.int _ _),(6,.pointer _),(7,.pointer _),(8,.pointer _),(9,.pointer _),(20,.bool _)] ⟨U,U,U,U,U,U,U,U,O⟩ fun σ => ?_)
 refine Jt (b := _) U (fun hc20 => ?_) (fun hc20 => ?_)
 replace hc20 := Qe.1 hc20
 have hf : Votes.stateF l tr at_ = Votes.validate l tr := by rw [Votes.stateF,if_pos hc20]
 have hL : Votes.stateL l tr at_ = List.replicate 8 (0,false) := by rw [Votes.stateL,hf,if_neg hc20]
 refine Jg fun N6 hN6 => ?_
 refine Qr [] [(0,room b6 136 16),(1,room b7 33 2)] (by kernel_rfl) ?_
 refine Jv 0 (TK := [room b6 136 16,room b7 33 2,box b8 _,box b9 _]) U (by kernel_rfl) (by kernel_rfl) (by kernel_rfl) #[false,true,false,false] (by kernel_rfl) U (Kk (cs := (List.replicate 8 ((0 : Int),false)).flatMap Votes.stCells) Tryz.isAgg136 Tryz.sizeOf136 U U (Kf 2 U)) U U U (Mb (Kj 0 U U) (Kj 1 U U)) (listed' := #[true,false,false,false]) U ?_
 refine Jv 1 (TK := [room b6 136 16,room b7 33 2,box b8 _,box b9 _]) U (by kernel_rfl) (by kernel_rfl) (by kernel_rfl) #[true,false,true,false] (by kernel_rfl) U (Kk (cs := [_,_]) Tryz.isAgg33 Tryz.sizeOf33 U U (Kf 3 U)) U U U (Mb (Kj 0 U U) (Kj 1 U U)) (listed' := #[true,true,false,false]) U ?_
 refine Mr 2 (k' := 0) (listed' := #[true,true,true,false]) (by kernel_rfl) U U U ?_
 refine Uw 0 (f := Votes.stCells) Votes.wide_st U U Tryz.sizeOf136 U U U U ?_
 refine Ja ?_
 refine Mo (TK := [room b6 136 16,room b7 33 2,box b8 _,box b9 _]) U (Mb (Kj 0 U U) (Kj 1 U U)) ?_
 refine Mr 3 (k' := 0) (listed' := #[true,true,true,true]) (by kernel_rfl) U U U ?_
 refine Jr 1 (v := .agg #[_,_]) (cs' := #[_,_]) U U Tryz.sizeOf33 U U U U (leb U) U U (Ja ?_)
 refine Mo (TK := [room b6 136 16,room b7 33 2,box b8 _,box b9 _]) U (Mb (Kj 0 U U) (Kj 1 U U)) ?_
 refine Qd (by kernel_rfl) ?_
 refine hN6 _ _ (gT [box b6 _,box b7 _,box b8 _,box b9 _] U (Jb [(6,.pointer _),(7,.pointer _)] ⟨U,U,O⟩ fun σ => ?_))
 refine Ke fun w1 hM => ?_
 refine ⟨_,res2 rfl (rc 0 (cs := _) hM rfl rfl Tryz.isAgg136 Tryz.sizeOf136 (by first | rfl | (rw [Qb (size := 2) (fun _ => rfl),Votes.foldl_len]; rfl))) (rc 1 (cs := [_,_]) hM rfl rfl Tryz.isAgg33 Tryz.sizeOf33 rfl),?_⟩
 exact ⟨by rw [hf,hL],hM.low⟩
 replace hc20 := Qf.1 hc20
 have ok := Votes.ok_of l tr hc20
 refine Jw (hN3 _ _ (Jb [(0,.slice _ _ _),(1,.slice _ _ _),(2,.int _ _),(6,.pointer _),(7,.pointer _),(8,.pointer _)] ⟨U,U,U,U,U,U,O⟩ fun σ => Jg fun N7 hN7 => Jg fun N8 hN8 => Jk (Jd (Jf U) U U U (Jd (Me U U) U U U (Jd (Jn U) U U U ?_)))))
 refine Kh (want := false) U U U U U U (fun hg25 => ?_) (fun hg25 => ?_)
 have hg25d := odf hg25
 refine Jd (Je (Jf U)) U U U (Js U U U U hg25 (Jd (Je (Kl U)) U U U (Js U U U U hg25 (Jd (Je (Ks Tryz.underlying46 U)) U U U (Js U U U U hg25 (Jd (Je (Wj U U)) U U U (Jd (Jp U hg25 U) U U U (Ja ?_))))))))
 refine hN8 _ _ (Jb [(0,.slice _ _ _),(1,.slice _ _ _),(2,.int _ _),(6,.pointer _),(7,.pointer _),(8,.pointer _),(30,.bool _)] ⟨U,U,U,U,U,U,U,O⟩ fun σ => ?_)
 refine Jt (b := _) U (fun hc30 => ?_) (fun hc30 => ?_)
 replace hc30 := odt hc30
 have hf : Votes.stateF l tr at_ = ⟨3,-3⟩ := by rw [Votes.stateF,if_neg (by simp [hc20]),if_pos (by omega)]
 have hL : Votes.stateL l tr at_ = List.replicate 8 (0,false) := by rw [Votes.stateL,hf,if_neg (by simp)]
 refine Jg fun N9 hN9 => Jk (Jd (Kk (cs := (List.replicate 8 ((0 : Int),false)).flatMap Votes.stCells) Tryz.isAgg136 Tryz.sizeOf136 U U (Kf 2 U)) U U U (Jd (Kd (vs := [(0,_),(1,_)]) (cells := #[_,_]) U (Ma _ _)) U U U ?_))
 refine Uw 0 (f := Votes.stCells) Votes.wide_st U U Tryz.sizeOf136 U U U U ?_
 refine Jr 1 (v := .agg #[_,_]) (cs' := #[_,_]) U U Tryz.sizeOf33 U U U U (leb U) U U (Ja (hN9 _ _ (gT [box b6 _,box b7 _,box b8 _,box b9 _] U (Jb [(6,.pointer _),(7,.pointer _)] ⟨U,U,O⟩ fun σ => ?_))))
 refine Ke fun w1 hM => ?_
 refine ⟨_,res2 rfl (rc 0 (cs := _) hM rfl rfl Tryz.isAgg136 Tryz.sizeOf136 (by first | rfl | (rw [Qb (size := 2) (fun _ => rfl),Votes.foldl_len]; rfl))) (rc 1 (cs := [_,_]) hM rfl rfl Tryz.isAgg33 Tryz.sizeOf33 rfl),?_⟩
 exact ⟨by rw [hf,hL],hM.low⟩
 replace hc30 := odf hc30
 have hf : Votes.stateF l tr at_ = ⟨0,0⟩ := by rw [Votes.stateF,if_neg (by simp [hc20]),if_neg (by omega)]
 have hL : Votes.stateL l tr at_ = Votes.statesOf l tr at_.toNat := by rw [Votes.stateL,hf,if_pos rfl]
 have hfew := ok.few
 have hshort := ok.short
 obtain ⟨a,rfl⟩ := Int.eq_ofNat_of_zero_le (show 0 ≤ at_ by omega)
 rw [Int.toNat_natCast] at hL
 refine Jw (hN7 _ _ (Jb [(0,.slice _ _ _),(1,.slice _ _ _),(2,.int _ _),(6,.pointer _),(7,.pointer _),(8,.pointer _)] ⟨U,U,U,U,U,U,O⟩ fun σ => Jg fun N10 hN10 => Jg fun N11 hN11 => Jk (Jd (Kl U) U U U (Jd (Ks Tryz.underlying49 U) U U U (Jd (Jf U) U U U (Ja (hN11 _ _ (Jb [(1,.slice _ _ _),(2,.int _ _),(6,.pointer _),(7,.pointer _),(8,.pointer _),(33,.slice _ _ _),(34,.int _ _),(35,.int _ _)] ⟨U,U,U,U,U,U,U,U,O⟩ fun σ => ?_))))))))
 refine Kn ?_
 refine Mm [(35,.int _ _)] [(1,.slice _ _ _),(2,.int _ _),(6,.pointer _),(7,.pointer _),(8,.pointer _),(33,.slice _ _ _),(34,.int _ _)] ⟨U,O⟩ ⟨U,U,U,U,U,U,U,O⟩ fun σ => ?_
 refine Ml (G := Nat) (fun k => k ≤ l.length) (fun k => l.length - k) (fun k => [(35,.int .i64 (k : Int))]) (fun k => [(2,box b8 (.cells (((l.take k).foldl (Votes.stepSt tr a) (List.replicate 8 ((0 : Int),false))).flatMap Votes.stCells).toArray 136))]) (0) ?h0 ⟨U,O⟩ ⟨U,U,U,U,U,U,U,O⟩ U ?round
 case h0 => exact Nat.zero_le _
 case round =>
  intro k hφ σ
  have hk := hφ
  refine gT [box b6 _,box b7 _,box _ _,box b9 _] U (Jg fun N12 hN12 => Jk (Jd (Me U U) U U U (Ja (hN12 _ _ (Jb [(1,.slice _ _ _),(2,.int _ _),(6,.pointer _),(7,.pointer _),(8,.pointer _),(33,.slice _ _ _),(34,.int _ _),(35,.int _ _),(36,.bool _)] ⟨U,U,U,U,U,U,U,U,U,O⟩ fun σ => Jg fun N13 hN13 => ?_)))))
  refine Jt (b := _) U (fun hc36 => ?_) (fun hc36 => ?_)
  replace hc36 := odt hc36
  have hk1 : k < l.length := by omega
  obtain ⟨ad,rfl,-,hcv⟩ := hv.at_ hk1
  have hgood : ¬ Votes.Bad tr.length l[k] := ok.good _ (List.getElem_mem hk1)
  unfold Votes.Bad at hgood
  have hstep := Votes.foldl_take_succ (Votes.stepSt tr a) (List.replicate 8 ((0 : Int),false)) l k hk1
  have hlen8 : ((l.take k).foldl (Votes.stepSt tr a) (List.replicate 8 ((0 : Int),false))).length = 8 := by rw [Votes.foldl_len]; rfl
  refine Jw (hN13 _ _ (Jb [(1,.slice _ _ _),(2,.int _ _),(6,.pointer _),(7,.pointer _),(8,.pointer _),(33,.slice _ _ _),(34,.int _ _),(35,.int _ _)] ⟨U,U,U,U,U,U,U,U,O⟩ fun σ => Jg fun N14 hN14 => Kn (Jg fun N15 hN15 => Jk (Jd (Jz Tryz.underlying49 Tryz.sizeOf51 U U U (by omega) (by omega)) U U U (Jd (Kk (cs := [_,_,_]) Tryz.isAgg51 Tryz.sizeOf51 U U (Mv hcv)) U U U ?_)))))
  refine Ka (cs := #[.int .i64 0,.int .i64 0,.int .i64 0]) Tryz.zeroValue51 U U (fun b11 hb11 => ?_)
  refine Jr 4 (v := .agg #[_,_,_]) (cs' := #[_,_,_]) U U Tryz.sizeOf51 U U U U (leb U) U U (Ja (hN15 _ _ (gT [box b6 _,box b7 _,box _ _,box b9 _,box b11 _] U (Jb [(1,.slice _ _ _),(2,.int _ _),(6,.pointer _),(7,.pointer _),(8,.pointer _),(11,.pointer _),(33,.slice _ _ _),(34,.int _ _),(35,.int _ _)] ⟨U,U,U,U,U,U,U,U,U,O⟩ fun σ => Jg fun N16 hN16 => Jg fun N17 hN17 => Jk (Jd (Jc fa51_1 U) U U U (Jd (Jq Tryz.isAgg3 U (Jm 4 U U)) U U U (Jd (Jf U) U U U (Jd (Mh U U) U U U ?_))))))))
  refine Ja (hN17 _ _ (Jb [(1,.slice _ _ _),(2,.int _ _),(6,.pointer _),(7,.pointer _),(8,.pointer _),(11,.pointer _),(33,.slice _ _ _),(34,.int _ _),(35,.int _ _),(42,.bool _)] ⟨U,U,U,U,U,U,U,U,U,U,O⟩ fun σ => ?_))
  refine Jt (b := _) U (fun hc42 => ?_) (fun hc42 => ?_)
  replace hc42 := odt hc42
  have hsame : (l.take (k + 1)).foldl (Votes.stepSt tr a) (List.replicate 8 ((0 : Int),false)) = (l.take k).foldl (Votes.stepSt tr a) (List.replicate 8 ((0 : Int),false)) := by rw [hstep,Votes.stepSt,if_pos (by omega)]
  refine Mx ?_
  refine hN14 _ _ (Jb [(1,.slice _ _ _),(2,.int _ _),(6,.pointer _),(7,.pointer _),(8,.pointer _),(33,.slice _ _ _),(34,.int _ _),(35,.int _ _)] ⟨U,U,U,U,U,U,U,U,O⟩ fun σ => Jk (Jd (Kr U U ⟨by omega,by omega⟩) U U U (Jd (Jf U) U U U (Ja ?_))))
  rw [← hsame]
  refine Kt (k + 1) (by omega) (show k + 1 ≤ l.length by omega) ⟨U,O⟩ ⟨U,U,U,U,U,U,U,O⟩ ⟨_,U⟩
  replace hc42 := odf hc42
  have hnew : (l.take (k + 1)).foldl (Votes.stepSt tr a) (List.replicate 8 ((0 : Int),false)) = ((l.take k).foldl (Votes.stepSt tr a) (List.replicate 8 ((0 : Int),false))).set l[k].user.toNat (l[k].val,Votes.cnt tr a l[k] || decide (l[k].val = -2)) := by rw [hstep,Votes.stepSt,if_neg (by omega)]
  have hcut := ht.cut (i := (l[k].rev + 1).toNat) (j := ((a : Int) + 1).toNat) (cap := c2) (by omega) (by omega) hcc
  have hsl : ((tr.drop (l[k].rev + 1).toNat).take (((a : Int) + 1).toNat - (l[k].rev + 1).toNat)).length = ((a : Int) + 1).toNat - (l[k].rev + 1).toNat := by simp; omega
  have hcnt := Votes.cnt_cut tr a l[k] (by omega)
  generalize hsub : (tr.drop (l[k].rev + 1).toNat).take (((a : Int) + 1).toNat - (l[k].rev + 1).toNat) = sub at hcut hsl hcnt
  refine Jw (hN16 _ _ (Jb [(1,.slice _ _ _),(2,.int _ _),(6,.pointer _),(7,.pointer _),(8,.pointer _),(11,.pointer _),(33,.slice _ _ _),(34,.int _ _),(35,.int _ _)] ⟨U,U,U,U,U,U,U,U,U,O⟩ fun σ => Jg fun N18 hN18 => Jk (Jd (Ji U) U U U (Ja (hN18 _ _ (Jb [(1,.slice _ _ _),(2,.int _ _),(6,.pointer _),(7,.pointer _),(8,.pointer _),(11,.pointer _),(12,.bool _),(33,.slice _ _ _),(34,.int _ _),(35,.int _ _)] ⟨U,U,U,U,U,U,U,U,U,U,O⟩ fun σ => Jg fun N19 hN19 => Jg fun N20 hN20 => Jk (Jd (Kl U) U U U (Jd (Jc fa51_1 U) U U U ?_))))))))
  refine Jd (Jq Tryz.isAgg3 U (Jm 4 U U)) U U U (Jd (Kr U U ⟨by omega,by omega⟩) U U U (Jd (Jf U) U U U (Jd (Kr U U ⟨by omega,by omega⟩) U U U (Jd (y_slice Tryz.underlying46 Tryz.sizeOf4 U U U (by omega) (by omega) (by omega)) U U U (Jd (Ks Tryz.underlying46 U) U U U (Jd (Jf U) U U U (Ja (hN20 _ _ ?_))))))))
  refine Jb [(1,.slice _ _ _),(2,.int _ _),(6,.pointer _),(7,.pointer _),(8,.pointer _),(11,.pointer _),(12,.bool _),(33,.slice _ _ _),(34,.int _ _),(35,.int _ _),(49,.slice _ _ _),(50,.int _ _),(51,.int _ _)] ⟨U,U,U,U,U,U,U,U,U,U,U,U,U,O⟩ fun σ => Kn ?_
  refine Mm [(12,.bool _),(51,.int _ _)] [(1,.slice _ _ _),(2,.int _ _),(6,.pointer _),(7,.pointer _),(8,.pointer _),(11,.pointer _),(33,.slice _ _ _),(34,.int _ _),(35,.int _ _),(49,.slice _ _ _),(50,.int _ _)] ⟨U,U,O⟩ ⟨U,U,U,U,U,U,U,U,U,U,U,O⟩ fun σ => ?_
  refine Ml (G := Nat) (fun j => j ≤ sub.length) (fun j => sub.length - j) (fun j => [(12,.bool ((sub.take j).all id)),(51,.int .i64 (j : Int))]) (fun j => []) (0) ?h0 ⟨by simp; rfl,rfl,trivial⟩ ⟨U,U,U,U,U,U,U,U,U,U,U,O⟩ U ?round
  case h0 => exact Nat.zero_le _
  case round =>
   intro j hφ σ
   have hj := hφ
   refine Jg fun N21 hN21 => Jk (Jd (Me U U) U U U (Ja (hN21 _ _ (Jb [(1,.slice _ _ _),(2,.int _ _),(6,.pointer _),(7,.pointer _),(8,.pointer _),(11,.pointer _),(12,.bool _),(33,.slice _ _ _),(34,.int _ _),(35,.int _ _),(49,.slice _ _ _),(50,.int _ _),(51,.int _ _),(52,.bool _)] ⟨U,U,U,U,U,U,U,U,U,U,U,U,U,U,O⟩ fun σ => Jg fun N22 hN22 => ?_))))
   refine Jt (b := _) U (fun hc52 => ?_) (fun hc52 => ?_)
   replace hc52 := odt hc52
   have hj1 : j < sub.length := by omega
   obtain ⟨adt,eA,-,hct⟩ := hcut.at_ hj1
   refine Jw (hN22 _ _ (Jb [(1,.slice _ _ _),(2,.int _ _),(6,.pointer _),(7,.pointer _),(8,.pointer _),(11,.pointer _),(12,.bool _),(33,.slice _ _ _),(34,.int _ _),(35,.int _ _),(49,.slice _ _ _),(50,.int _ _),(51,.int _ _)] ⟨U,U,U,U,U,U,U,U,U,U,U,U,U,O⟩ fun σ => Jg fun N23 hN23 => Kn (Jg fun N24 hN24 => Jk (Jd (Jz (a := adt) Tryz.underlying46 Tryz.sizeOf4 (show Value.slice _ _ _ = Value.slice (some adt) _ _ from by rw [← eA]) U U (by omega) (by omega)) U U U (Jd (Jq Tryz.isAgg4 U (Ms (hct 0 _ U))) U U U (Jd (Ji U) U U U (Ja (hN24 _ _ ?_))))))))
   refine Jb [(1,.slice _ _ _),(2,.int _ _),(6,.pointer _),(7,.pointer _),(8,.pointer _),(11,.pointer _),(12,.bool _),(14,.bool _),(33,.slice _ _ _),(34,.int _ _),(35,.int _ _),(49,.slice _ _ _),(50,.int _ _),(51,.int _ _)] ⟨U,U,U,U,U,U,U,U,U,U,U,U,U,U,O⟩ fun σ => Jk (Jd (Jn U) U U U (Jd (Jn U) U U U ?_))
   refine Kh (want := true) U U U U U U (fun hg56 => ?_) (fun hg56 => ?_)
   have hg56d := hg56
   skip
   refine Jd (Je (Jn U)) U U U (Jd (Jo U hg56 U) U U U (Jd (Ji U) U U U (Ja (hN23 _ _ (Jb [(1,.slice _ _ _),(2,.int _ _),(6,.pointer _),(7,.pointer _),(8,.pointer _),(11,.pointer _),(12,.bool _),(33,.slice _ _ _),(34,.int _ _),(35,.int _ _),(49,.slice _ _ _),(50,.int _ _),(51,.int _ _)] ⟨U,U,U,U,U,U,U,U,U,U,U,U,U,O⟩ fun σ => Jk (Jd (Kr U U ⟨by omega,by omega⟩) U U U (Jd (Jf U) U U U (Ja ?_))))))))
   refine Kt (j + 1) (by omega) (show j + 1 ≤ sub.length by omega) ⟨(congrArg Value.bool (by rw [Votes.all_take_succ _ j hj1,hg56d]; simp)),U,trivial⟩ ⟨U,U,U,U,U,U,U,U,U,U,U,O⟩ ⟨_,U⟩
   have hg56d := hg56
   skip
   refine Jd (Jp U hg56 U) U U U (Jd (Ji U) U U U (Ja (hN23 _ _ (Jb [(1,.slice _ _ _),(2,.int _ _),(6,.pointer _),(7,.pointer _),(8,.pointer _),(11,.pointer _),(12,.bool _),(33,.slice _ _ _),(34,.int _ _),(35,.int _ _),(49,.slice _ _ _),(50,.int _ _),(51,.int _ _)] ⟨U,U,U,U,U,U,U,U,U,U,U,U,U,O⟩ fun σ => Jk (Jd (Kr U U ⟨by omega,by omega⟩) U U U (Jd (Jf U) U U U (Ja ?_)))))))
   refine Kt (j + 1) (by omega) (show j + 1 ≤ sub.length by omega) ⟨(congrArg Value.bool (by rw [Votes.all_take_succ _ j hj1,hg56d]; simp)),U,trivial⟩ ⟨U,U,U,U,U,U,U,U,U,U,U,O⟩ ⟨_,U⟩
   replace hc52 := odf hc52
   have hall : sub.take j = sub := List.take_of_length_le (by omega)
   rw [hall,← hcnt]
   refine Mx ?_
   refine hN19 _ _ (Jb [(1,.slice _ _ _),(2,.int _ _),(6,.pointer _),(7,.pointer _),(8,.pointer _),(11,.pointer _),(12,.bool _),(33,.slice _ _ _),(34,.int _ _),(35,.int _ _)] ⟨U,U,U,U,U,U,U,U,U,U,O⟩ fun σ => Jk (Jd (Jc fa51_0 U) U U U (Jd (Jq Tryz.isAgg3 U (Jm 4 U U)) U U U (Jd (Jc fa51_2 U) U U U (Jd (Jq Tryz.isAgg3 U (Jm 4 U U)) U U U (Jd (Jn U) U U U (Jd (Jn U) U U U ?_)))))))
   refine Kh (want := false) U U U U U U (fun hg65 => ?_) (fun hg65 => ?_)
   have hg65d := hg65
   refine Jd (Je (Jc fa51_2 U)) U U U (Js U U U U hg65 (Jd (Je (Jq Tryz.isAgg3 U (Jm 4 U U))) U U U (Js U U U U hg65 (Jd (Je (Mc U U)) U U U (Jd (Jp U hg65 U) U U U (Jd (Kd (vs := [(0,.int _ _),(1,.bool _)]) (cells := #[_,_]) U (bd135_0_1 _ _)) U U U (Jd (We Tryz.underlying136 Tryz.sizeOf135 U U U (by omega) (by omega)) U U U ?_)))))))
   refine gop_store_el 2 (f := Votes.stCells) (size := 2) (k := l[k].user.toNat) (o := 0) (v := .agg #[_,_]) (a' := (l[k].val,Votes.cnt tr a l[k] || decide (l[k].val = -2))) (fun _ => U) U (by omega) U Tryz.sizeOf135 U U U U (List.getElem?_eq_getElem (show l[k].user.toNat < _ by omega)) (by omega) (by rw [hg65d]; rfl) U ?_
   refine Ja (hN14 _ _ (gT [box b6 _,box b7 _,box _ _,box b9 _,box b11 _] U (Jb [(1,.slice _ _ _),(2,.int _ _),(6,.pointer _),(7,.pointer _),(8,.pointer _),(33,.slice _ _ _),(34,.int _ _),(35,.int _ _)] ⟨U,U,U,U,U,U,U,U,O⟩ fun σ => Jk (Jd (Kr U U ⟨by omega,by omega⟩) U U U (Jd (Jf U) U U U (Ja ?_))))))
   rw [← hnew]
   refine Kt (k + 1) (by omega) (show k + 1 ≤ l.length by omega) ⟨U,O⟩ ⟨U,U,U,U,U,U,U,O⟩ ⟨_,U⟩
   have hg65d := hg65
   refine Jj U U U U hg65 U U (Jj U U U U hg65 U U (Jd (Jo U hg65 U) U U U (Jd (Kd (vs := [(0,.int _ _),(1,.bool _)]) (cells := #[_,_]) U (bd135_0_1 _ _)) U U U (Jd (We Tryz.underlying136 Tryz.sizeOf135 U U U (by omega) (by omega)) U U U ?_))))
   refine gop_store_el 2 (f := Votes.stCells) (size := 2) (k := l[k].user.toNat) (o := 0) (v := .agg #[_,_]) (a' := (l[k].val,Votes.cnt tr a l[k] || decide (l[k].val = -2))) (fun _ => U) U (by omega) U Tryz.sizeOf135 U U U U (List.getElem?_eq_getElem (show l[k].user.toNat < _ by omega)) (by omega) (by rw [hg65d]; rfl) U ?_
   refine Ja (hN14 _ _ (gT [box b6 _,box b7 _,box _ _,box b9 _,box b11 _] U (Jb [(1,.slice _ _ _),(2,.int _ _),(6,.pointer _),(7,.pointer _),(8,.pointer _),(33,.slice _ _ _),(34,.int _ _),(35,.int _ _)] ⟨U,U,U,U,U,U,U,U,O⟩ fun σ => Jk (Jd (Kr U U ⟨by omega,by omega⟩) U U U (Jd (Jf U) U U U (Ja ?_))))))
   rw [← hnew]
   refine Kt (k + 1) (by omega) (show k + 1 ≤ l.length by omega) ⟨U,O⟩ ⟨U,U,U,U,U,U,U,O⟩ ⟨_,U⟩
  replace hc36 := odf hc36
  refine Mx ?_
  refine hN10 _ _ (Jb [(6,.pointer _),(7,.pointer _),(8,.pointer _)] ⟨U,U,U,O⟩ fun σ => Jg fun N25 hN25 => Jk (Jd (Kk (cs := _) Tryz.isAgg136 Tryz.sizeOf136 (by rw [Qb (size := 2) (fun _ => rfl),Votes.foldl_len]; rfl) U (Kf 2 U)) U U U (Jd (Kd (vs := []) (cells := #[.int .i64 0,.int .i64 0]) U Qh) U U U ?_)))
  refine Uw 0 (f := Votes.stCells) Votes.wide_st U U Tryz.sizeOf136 (by rw [Votes.foldl_len]; rfl) U (by rw [Votes.foldl_len]) U ?_
  refine Jr 1 (v := .agg #[_,_]) (cs' := #[_,_]) U U Tryz.sizeOf33 U U U U (leb U) U U (Ja (hN25 _ _ (gT [box b6 _,box b7 _,box _ _,box b9 _] U (Jb [(6,.pointer _),(7,.pointer _)] ⟨U,U,O⟩ fun σ => ?_))))
  refine Ke fun w1 hM => ?_
  refine ⟨_,res2 rfl (rc 0 (cs := _) hM rfl rfl Tryz.isAgg136 Tryz.sizeOf136 (by first | rfl | (rw [Qb (size := 2) (fun _ => rfl),Votes.foldl_len]; rfl))) (rc 1 (cs := [_,_]) hM rfl rfl Tryz.isAgg33 Tryz.sizeOf33 rfl),?_⟩
  exact ⟨by rw [hf,hL,Votes.statesOf,List.take_of_length_le (show l.length ≤ k by omega)],hM.low⟩
 have hg25d := odt hg25
 refine Jj U U U U hg25 U U (Jj U U U U hg25 U U (Jj U U U U hg25 U U (Jd (Jo U hg25 U) U U U (Ja (hN8 _ _ (Jb [(0,.slice _ _ _),(1,.slice _ _ _),(2,.int _ _),(6,.pointer _),(7,.pointer _),(8,.pointer _),(30,.bool _)] ⟨U,U,U,U,U,U,U,O⟩ fun σ => ?_))))))
 refine Jt (b := _) U (fun hc30 => ?_) (fun hc30 => ?_)
 have hf : Votes.stateF l tr at_ = ⟨3,-3⟩ := by rw [Votes.stateF,if_neg (by simp [hc20]),if_pos (by omega)]
 have hL : Votes.stateL l tr at_ = List.replicate 8 (0,false) := by rw [Votes.stateL,hf,if_neg (by simp)]
 refine Jg fun N26 hN26 => Jk (Jd (Kk (cs := (List.replicate 8 ((0 : Int),false)).flatMap Votes.stCells) Tryz.isAgg136 Tryz.sizeOf136 U U (Kf 2 U)) U U U (Jd (Kd (vs := [(0,_),(1,_)]) (cells := #[_,_]) U (Ma _ _)) U U U ?_))
 refine Uw 0 (f := Votes.stCells) Votes.wide_st U U Tryz.sizeOf136 U U U U ?_
 refine Jr 1 (v := .agg #[_,_]) (cs' := #[_,_]) U U Tryz.sizeOf33 U U U U (leb U) U U (Ja (hN26 _ _ (gT [box b6 _,box b7 _,box b8 _,box b9 _] U (Jb [(6,.pointer _),(7,.pointer _)] ⟨U,U,O⟩ fun σ => ?_))))
 refine Ke fun w1 hM => ?_
 refine ⟨_,res2 rfl (rc 0 (cs := _) hM rfl rfl Tryz.isAgg136 Tryz.sizeOf136 (by first | rfl | (rw [Qb (size := 2) (fun _ => rfl),Votes.foldl_len]; rfl))) (rc 1 (cs := [_,_]) hM rfl rfl Tryz.isAgg33 Tryz.sizeOf33 rfl),?_⟩
 exact ⟨by rw [hf,hL],hM.low⟩
 cases hc30
set_option maxHeartbeats 1000000 in
theorem current_any (w : World) (A : Option Addr) (c : Nat) (l : List Vote) (B : Option Addr) (c2 : Nat) (tr : List Bool) (hv : Rdl w 0 3 voteCells A l) (ht : Rdl w 0 1 boolCells B tr) (hl : l.length ≤ maxLen) (htl : tr.length ≤ maxLen) (hcc : tr.length ≤ c2) (at_ : Int) : Calls Tryz.prog 34 #[.slice A l.length c, .slice B tr.length c2, .int .i64 at_] w fun e w' => ∃ v, e = .returned (.tuple #[v, fv (Votes.stateF l tr at_)]) ∧ Below w.heap.size w w' ∧ NewL 1 intCells (Votes.curL l tr at_) w.heap.size w' v := by
 have h8 := Votes.stateL_len l tr at_
 refine Kz Tryz.func34 U Tryz.ntmps34 (leb U) ?_
 refine Jb [(0,.slice _ _ _),(1,.slice _ _ _),(2,.int _ _)] ⟨U,U,U,O⟩ fun σ => Jg fun N1 hN1 => Jk (Jd (Kq U) U U U ?_)
 refine Ka (cs := #[.int .i64 0,.int .i64 0]) Tryz.zeroValue33 U U (fun b7 hb7 => ?_)
 refine Ja (hN1 _ _ (gT [box b7 _] U (Jb [(0,.slice _ _ _),(1,.slice _ _ _),(2,.int _ _),(7,.pointer _)] ⟨U,U,U,U,O⟩ fun σ => Jg fun N2 hN2 => Jk (Jd (Kl U) U U U (Jd (Kl U) U U U (Jd (Jf U) U U U ?_))))))
 refine Km (Kb (vs := [.slice _ _ _,.slice _ _ _,.int _ _]) Tryz.func65 U (by kernel_rfl) U) (fun w hM => states_any w _ _ _ _ _ _ (hv.base hM) (ht.base hM) hl htl hcc _) U U U ?_
 refine Jd (Ju (v := .tuple #[.agg _,.agg #[_,_]]) U) U U U (Jd (Mw (v := .agg _) U U) U U U (Jd (Mw (v := .agg #[_,_]) U U) U U U ?_))
 refine Ka (cs := ((List.replicate 8 ((0 : Int),false)).flatMap Votes.stCells).toArray) Tryz.zeroValue136 U U (fun b8 hb8 => ?_)
 refine Ka (cs := #[.int .i64 0,.int .i64 0]) Tryz.zeroValue33 U U (fun b9 hb9 => ?_)
 refine Uw 1 (f := Votes.stCells) Votes.wide_st U U Tryz.sizeOf136 (by rw [h8]) U (by rw [h8]; rfl) U ?_
 refine Jr 2 (v := .agg #[_,_]) (cs' := #[_,_]) U U Tryz.sizeOf33 U U U U (leb U) U U (Ja (hN2 _ _ (gT [box b7 _,box b8 _,box b9 _] U (Jb [(7,.pointer _),(8,.pointer _),(9,.pointer _)] ⟨U,U,U,O⟩ fun σ => Jg fun N3 hN3 => Jg fun N4 hN4 => Jk (Jd (Kk (cs := [_,_]) Tryz.isAgg33 Tryz.sizeOf33 U U (Kf 2 U)) U U U (Jd (Kd (vs := []) (cells := #[.int .i64 0,.int .i64 0]) U Qh) U U U (Jd (Uk (vx := .agg #[_,_]) (vy := .agg #[_,_]) U U (fun w => eg33 _ _ _ _ _ w) (fun w => ne33 _ _ _ _ w)) U U U (Ja ?_))))))))
 refine hN4 _ _ (Jb [(7,.pointer _),(8,.pointer _),(9,.pointer _),(22,.bool _)] ⟨U,U,U,U,O⟩ fun σ => ?_)
 refine Jt (b := _) U (fun hc22 => ?_) (fun hc22 => ?_)
 replace hc22 := Qe.1 hc22
 have hL : Votes.curL l tr at_ = [] := by rw [Votes.curL,if_neg hc22]
 refine Jg fun N5 hN5 => ?_
 refine Qr [] [(0,room b7 33 2)] (by kernel_rfl) ?_
 refine Jv 0 (TK := [room b7 33 2,box b8 _,box b9 _]) U (by kernel_rfl) (by kernel_rfl) (by kernel_rfl) #[false,true,false] (by kernel_rfl) U (Kk (cs := [_,_]) Tryz.isAgg33 Tryz.sizeOf33 U U (Kf 2 U)) U U U (Kj 0 U U) (listed' := #[true,false,false]) U ?_
 refine Jv 1 (TK := [room b7 33 2,box b8 _,box b9 _]) U (by kernel_rfl) (by kernel_rfl) (by kernel_rfl) #[true,false,false] (by kernel_rfl) U (Kq U) U U U (Kj 0 U U) (listed' := #[true,true,false]) U ?_
 refine Mr 2 (k' := 0) (listed' := #[true,true,true]) (by kernel_rfl) U U U ?_
 refine Jr 0 (v := .agg #[_,_]) (cs' := #[_,_]) U U Tryz.sizeOf33 U U U U (leb U) U U (Ja ?_)
 refine Mo (TK := [room b7 33 2,box b8 _,box b9 _]) U (Kj 0 U U) ?_
 refine Qd (by kernel_rfl) ?_
 refine hN5 _ _ (gT [box b7 _,box b8 _,box b9 _] U (Jb [(6,.slice _ _ _),(7,.pointer _)] ⟨U,U,O⟩ fun σ => ?_))
 refine Ke fun w1 hM => ?_
 refine ⟨_,res2 rfl (rt (v := .slice _ _ _) rfl) (rc 0 (cs := [_,_]) hM rfl rfl Tryz.isAgg33 Tryz.sizeOf33 rfl),?_⟩
 exact ⟨_,rfl,hM.low,by rw [hL]; exact Wd⟩
 replace hc22 := Qf.1 hc22
 have hL : Votes.curL l tr at_ = (Votes.stateL l tr at_).map Votes.curOf := by rw [Votes.curL,if_pos hc22,Votes.stateL,if_pos hc22]
 refine Jw (hN3 _ _ (Jb [(7,.pointer _),(8,.pointer _)] ⟨U,U,O⟩ fun σ => Jg fun N6 hN6 => Jk ?_))
 refine Zy (f := intCells) (bytes := 8) (z := .int .i64 0) ((0 : Int)) Tryz.underlying74 (by kernel_rfl) U U U (k := 8) U U (by decide) (by decide) U (fun b24 hb24 => ?_)
 refine Jd (Kx (v := .slice (some _) _ _) U) U U U (Ja (hN6 _ _ (gT [box b7 _,box b8 _,box b9 _,rowl _ _ _ _ _ _] U (Jb [(7,.pointer _),(8,.pointer _),(10,.slice (some _) _ _)] ⟨U,U,U,O⟩ fun σ => Jg fun N7 hN7 => Jg fun N8 hN8 => Jk (Jd (Kk (cs := (Votes.stateL l tr at_).flatMap Votes.stCells) Tryz.isAgg136 Tryz.sizeOf136 (by rw [Qb (size := 2) (fun _ => rfl),h8]) U (Kf 1 U)) U U U (Jd (Jf U) U U U (Ja (hN8 _ _ ?_))))))))
 refine Jb [(7,.pointer _),(10,.slice (some _) _ _),(25,.agg _),(26,.int _ _)] ⟨U,U,U,U,O⟩ fun σ => Kn ?_
 refine Mm [(26,.int _ _)] [(7,.pointer _),(10,.slice (some _) _ _),(25,.agg _)] ⟨U,O⟩ ⟨U,U,U,O⟩ fun σ => ?_
 refine Ml (G := Nat) (fun k => k ≤ 8) (fun k => 8 - k) (fun k => [(26,.int .i64 (k : Int))]) (fun k => [(3,rowl intCells w.heap.size 3 1 (.slice (some ⟨b24,0,none⟩) 8 8) (((Votes.stateL l tr at_).take k).map Votes.curOf ++ List.replicate (8 - k) 0))]) (0) ?h0 ⟨U,O⟩ ⟨U,U,U,O⟩ U ?round
 case h0 => exact Nat.zero_le _
 case round =>
  intro k hφ σ
  have hk : k ≤ 8 := hφ
  refine gT [box b7 _,box b8 _,box b9 _,rowl _ _ _ _ _ _] U (Jg fun N9 hN9 => Jk (Jd (Me U U) U U U (Ja (hN9 _ _ (Jb [(7,.pointer _),(10,.slice (some _) _ _),(25,.agg _),(26,.int _ _),(27,.bool _)] ⟨U,U,U,U,U,O⟩ fun σ => Jg fun N10 hN10 => ?_)))))
  refine Jt (b := _) U (fun hc27 => ?_) (fun hc27 => ?_)
  replace hc27 := odt hc27
  have hk1 : k < (Votes.stateL l tr at_).length := by omega
  refine Jw (hN10 _ _ (Jb [(7,.pointer _),(10,.slice (some _) _ _),(25,.agg _),(26,.int _ _)] ⟨U,U,U,U,O⟩ fun σ => Jg fun N11 hN11 => Kn (Jg fun N12 hN12 => Jk (Jd (Jf U) U U U ?_))))
  refine Jd (y_arridx (m := k) (f := Votes.stCells) (l := Votes.stateL l tr at_) (fun _ => U) Tryz.underlying136 Tryz.sizeOf135 Tryz.isAgg135 U U U (by omega) (by omega) (List.getElem?_eq_getElem hk1)) U U U ?_
  refine Ka (cs := #[.int .i64 0,.bool false]) Tryz.zeroValue135 U U (fun b12 hb12 => ?_)
  refine Jd (Jh U) U U U (Jr 4 (v := .agg #[_,_]) (cs' := #[_,_]) U U Tryz.sizeOf135 U U U U (leb U) U U (Ja (hN12 _ _ (gT [box b7 _,box b8 _,box b9 _,rowl _ _ _ _ _ _,box b12 _] U (Jb [(7,.pointer _),(10,.slice (some _) _ _),(11,.int _ _),(12,.pointer _),(25,.agg _),(26,.int _ _)] ⟨U,U,U,U,U,U,O⟩ fun σ => Jg fun N13 hN13 => Jk (Jd (Jc fa135_1 U) U U U (Jd (Jq Tryz.isAgg4 U (Jm 4 U U)) U U U (Ja ?_))))))))
  refine hN13 _ _ (Jb [(7,.pointer _),(10,.slice (some _) _ _),(11,.int _ _),(12,.pointer _),(25,.agg _),(26,.int _ _),(31,.bool _)] ⟨U,U,U,U,U,U,U,O⟩ fun σ => ?_)
  refine Jt (b := _) U (fun hc31 => ?_) (fun hc31 => ?_)
  refine Jk (Jd (Ju (v := .slice (some _) _ _) U) U U U (Jd (Jf U) U U U (Jd (Jc fa135_0 U) U U U (Jd (Jq Tryz.isAgg3 U (Jm 4 U U)) U U U (Jd (Jz Tryz.underlying74 Tryz.sizeOf3 U U U (by omega) (by omega)) U U U ?_)))))
  refine Mk 3 (f := intCells) (size := 1) (k := k) (o := 0) (v := .int _ _) (a' := Votes.curOf (Votes.stateL l tr at_)[k]) (fun _ => U) U (by omega) U Tryz.sizeOf3 U U U U (by simp; omega) (List.getElem?_eq_getElem (show k < _ by simp; omega)) (by omega) (by rw [Votes.curOf,hc31]; rfl) U ?_
  refine Ja (hN11 _ _ (gT [box b7 _,box b8 _,box b9 _,rowl _ _ _ _ _ _,box b12 _] U (Jb [(7,.pointer _),(10,.slice (some _) _ _),(25,.agg _),(26,.int _ _)] ⟨U,U,U,U,O⟩ fun σ => Jk (Jd (Kr U U ⟨by omega,by omega⟩) U U U (Jd (Jf U) U U U (Ja ?_))))))
  rw [← map_set Votes.curOf (Votes.stateL l tr at_) k 8 hk1 (by omega) 0]
  refine Kt (k + 1) (by omega) (show k + 1 ≤ 8 by omega) ⟨U,O⟩ ⟨U,U,U,O⟩ ⟨_,U⟩
  refine Jw (hN11 _ _ (Jb [(7,.pointer _),(10,.slice (some _) _ _),(25,.agg _),(26,.int _ _)] ⟨U,U,U,U,O⟩ fun σ => Jk (Jd (Kr U U ⟨by omega,by omega⟩) U U U (Jd (Jf U) U U U (Ja ?_)))))
  rw [← map_same Votes.curOf (Votes.stateL l tr at_) k 8 hk1 (by omega) 0 (by rw [Votes.curOf,hc31]; rfl)]
  refine Kt (k + 1) (by omega) (show k + 1 ≤ 8 by omega) ⟨U,O⟩ ⟨U,U,U,O⟩ ⟨_,U⟩
  replace hc27 := odf hc27
  refine Mx ?_
  refine hN7 _ _ (Jb [(7,.pointer _),(10,.slice (some _) _ _)] ⟨U,U,O⟩ fun σ => Jg fun N14 hN14 => Jk (Jd (Ju (v := .slice (some _) _ _) U) U U U (Jd (Kd (vs := []) (cells := #[.int .i64 0,.int .i64 0]) U Qh) U U U (Jd (Kx (v := .slice (some _) _ _) U) U U U (Jr 0 (v := .agg #[_,_]) (cs' := #[_,_]) U U Tryz.sizeOf33 U U U U (leb U) U U (Ja (hN14 _ _ (gT [box b7 _,box b8 _,box b9 _,rowl _ _ _ _ _ _] U ?_))))))))
  refine Jb [(6,.slice (some _) _ _),(7,.pointer _)] ⟨U,U,O⟩ fun σ => ?_
  refine Ke fun w1 hM => ?_
  refine ⟨_,res2 rfl (rt (v := .slice (some _) _ _) rfl) (rc 0 (cs := [_,_]) hM rfl rfl Tryz.isAgg33 Tryz.sizeOf33 rfl),?_⟩
  exact ⟨_,by rw [hc22],hM.low,by rw [hL,← map_end Votes.curOf (Votes.stateL l tr at_) k 8 (by omega) (by omega) 0]; exact hM.newL 3 rfl (fun _ => rfl)⟩
set_option maxHeartbeats 1000000 in
theorem score_any (w : World) (A : Option Addr) (c : Nat) (l : List Vote) (B : Option Addr) (c2 : Nat) (tr : List Bool) (hv : Rdl w 0 3 voteCells A l) (ht : Rdl w 0 1 boolCells B tr) (hl : l.length ≤ maxLen) (htl : tr.length ≤ maxLen) (hcc : tr.length ≤ c2) (at_ : Int) : Calls Tryz.prog 10 #[.slice A l.length c, .slice B tr.length c2, .int .i64 at_] w fun e w' => e = .returned (.tuple #[.int .i64 (Votes.scoreN l tr at_), .bool (Votes.scoreV l tr at_), fv (Votes.stateF l tr at_)]) ∧ Below w.heap.size w w' := by
 have hbd := Votes.curL_bd l tr at_
 have hln := Votes.curL_len l tr at_
 refine Kz Tryz.func10 U Tryz.ntmps10 (leb U) ?_
 refine Jb [(0,.slice _ _ _),(1,.slice _ _ _),(2,.int _ _)] ⟨U,U,U,O⟩ fun σ => Jg fun N1 hN1 => Jk (Jd (Jh U) U U U (Jd (Ji U) U U U ?_))
 refine Ka (cs := #[.int .i64 0,.int .i64 0]) Tryz.zeroValue33 U U (fun b8 hb8 => ?_)
 refine Ja (hN1 _ _ (gT [box b8 _] U (Jb [(0,.slice _ _ _),(1,.slice _ _ _),(2,.int _ _),(8,.pointer _)] ⟨U,U,U,U,O⟩ fun σ => Jg fun N2 hN2 => Jk (Jd (Kl U) U U U (Jd (Kl U) U U U (Jd (Jf U) U U U ?_))))))
 refine gop_new (fun lo ws v => ∃ v1,v = .tuple #[v1,fv (Votes.stateF l tr at_)] ∧ NewL 1 intCells (Votes.curL l tr at_) lo ws v1) (Kb (vs := [.slice _ _ _,.slice _ _ _,.int _ _]) Tryz.func34 U (by kernel_rfl) U) (fun w hM => (current_any w _ _ _ _ _ _ (hv.base hM) (ht.base hM) hl htl hcc _).mono fun _ _ ⟨v,h1,h2,h3⟩ => ⟨_,h1,h2,v,U,h3⟩) U U U ?_
 rintro _ lo ws hlo ⟨_,rfl,Ac,cc,rfl,hcc1,-,hcur⟩
 refine Jd (Ju (v := .tuple #[.slice _ _ _,.agg #[_,_]]) U) U U U (Jd (Qz U U) U U U (Jd (Mw (v := .agg #[_,_]) U U) U U U ?_))
 refine Ka (cs := #[.int .i64 0,.int .i64 0]) Tryz.zeroValue33 U U (fun b10 hb10 => ?_)
 refine Jd (Kq U) U U U (Jr 2 (v := .agg #[_,_]) (cs' := #[_,_]) U U Tryz.sizeOf33 U U U U (leb U) U U (Ja (hN2 _ _ (gT [box b8 _,seal_ _ _,box b10 _] U (Jb [(8,.pointer _),(9,.slice _ _ _),(10,.pointer _)] ⟨U,U,U,O⟩ fun σ => Jg fun N3 hN3 => Jg fun N4 hN4 => Jk (Jd (Kk (cs := [_,_]) Tryz.isAgg33 Tryz.sizeOf33 U U (Kf 2 U)) U U U (Jd (Kd (vs := []) (cells := #[.int .i64 0,.int .i64 0]) U Qh) U U U (Jd (Uk (vx := .agg #[_,_]) (vy := .agg #[_,_]) U U (fun w => eg33 _ _ _ _ _ w) (fun w => ne33 _ _ _ _ w)) U U U ?_))))))))
 refine Ja (hN4 _ _ (Jb [(8,.pointer _),(9,.slice _ _ _),(10,.pointer _),(24,.bool _)] ⟨U,U,U,U,O⟩ fun σ => ?_))
 refine Jt (b := _) U (fun hc24 => ?_) (fun hc24 => ?_)
 replace hc24 := Qe.1 hc24
 have hL : Votes.curL l tr at_ = [] := by rw [Votes.curL,if_neg hc24]
 refine Jg fun N5 hN5 => ?_
 refine Qr [] [(0,room b8 33 2)] (by kernel_rfl) ?_
 refine Jv 0 (TK := [room b8 33 2,seal_ _ _,box b10 _]) U (by kernel_rfl) (by kernel_rfl) (by kernel_rfl) #[false,true,true,false] (by kernel_rfl) U (Kk (cs := [_,_]) Tryz.isAgg33 Tryz.sizeOf33 U U (Kf 2 U)) U U U (Kj 0 U U) (listed' := #[true,false,false,false]) U ?_
 refine Jv 1 (TK := [room b8 33 2,seal_ _ _,box b10 _]) U (by kernel_rfl) (by kernel_rfl) (by kernel_rfl) #[true,false,false,false] (by kernel_rfl) U (Jh U) U U U (Kj 0 U U) (listed' := #[true,true,false,false]) U ?_
 refine Jv 2 (TK := [room b8 33 2,seal_ _ _,box b10 _]) U (by kernel_rfl) (by kernel_rfl) (by kernel_rfl) #[true,true,false,false] (by kernel_rfl) U (Ji U) U U U (Kj 0 U U) (listed' := #[true,true,true,false]) U ?_
 refine Mr 3 (k' := 0) (listed' := #[true,true,true,true]) (by kernel_rfl) U U U ?_
 refine Jr 0 (v := .agg #[_,_]) (cs' := #[_,_]) U U Tryz.sizeOf33 U U U U (leb U) U U (Ja ?_)
 refine Mo (TK := [room b8 33 2,seal_ _ _,box b10 _]) U (Kj 0 U U) ?_
 refine Qd (by kernel_rfl) ?_
 refine hN5 _ _ (gT [box b8 _,seal_ _ _,box b10 _] U (Jb [(6,.int _ _),(7,.bool _),(8,.pointer _)] ⟨U,U,U,O⟩ fun σ => ?_))
 refine Ke fun w1 hM => ?_
 refine ⟨_,res3 rfl (rt (v := .int _ _) rfl) (rt (v := .bool _) rfl) (rc 0 (cs := [_,_]) hM rfl rfl Tryz.isAgg33 Tryz.sizeOf33 rfl),?_⟩
 exact ⟨by rw [Votes.scoreN,Votes.scoreV,hL]; rfl,hM.low⟩
 replace hc24 := Qf.1 hc24
 refine Jw (hN3 _ _ (Jb [(8,.pointer _),(9,.slice _ _ _)] ⟨U,U,O⟩ fun σ => Jg fun N6 hN6 => Jk (Jd (Jh U) U U U (Jd (Ji U) U U U (Ja (hN6 _ _ (Jb [(8,.pointer _),(9,.slice _ _ _),(11,.int _ _),(12,.bool _)] ⟨U,U,U,U,O⟩ fun σ => Jg fun N7 hN7 => Jg fun N8 hN8 => Jk (Jd (Kl U) U U U ?_))))))))
 refine Jd (Ks Tryz.underlying74 U) U U U (Jd (Jf U) U U U (Ja (hN8 _ _ (Jb [(8,.pointer _),(11,.int _ _),(12,.bool _),(26,.slice _ _ _),(27,.int _ _),(28,.int _ _)] ⟨U,U,U,U,U,U,O⟩ fun σ => Kn ?_))))
 refine Mm [(11,.int _ _),(12,.bool _),(28,.int _ _)] [(8,.pointer _),(26,.slice _ _ _),(27,.int _ _)] ⟨U,U,U,O⟩ ⟨U,U,U,O⟩ fun σ => ?_
 refine Ml (G := Nat) (fun k => k ≤ (Votes.curL l tr at_).length) (fun k => (Votes.curL l tr at_).length - k) (fun k => [(11,.int .i64 (Votes.isum ((Votes.curL l tr at_).take k))),(12,.bool (((Votes.curL l tr at_).take k).any fun n => decide (n = -2))),(28,.int .i64 (k : Int))]) (fun k => []) (0) ?h0 ⟨U,U,U,O⟩ ⟨U,U,U,O⟩ U ?round
 case h0 => exact Nat.zero_le _
 case round =>
  intro k hφ σ
  have hk := hφ
  refine Jg fun N9 hN9 => Jk (Jd (Me U U) U U U (Ja (hN9 _ _ (Jb [(8,.pointer _),(11,.int _ _),(12,.bool _),(26,.slice _ _ _),(27,.int _ _),(28,.int _ _),(29,.bool _)] ⟨U,U,U,U,U,U,U,O⟩ fun σ => Jg fun N10 hN10 => ?_))))
  refine Jt (b := _) U (fun hc29 => ?_) (fun hc29 => ?_)
  replace hc29 := odt hc29
  have hk1 : k < (Votes.curL l tr at_).length := by omega
  obtain ⟨ad,rfl,hlo2,hcv⟩ := hcur.at_ hk1
  have hb1 := hbd _ (List.getElem_mem hk1)
  have hs1 := Votes.isum_take (Votes.curL l tr at_) k hk1
  have ha1 := any_take (fun n => decide (n = -2)) (Votes.curL l tr at_) k hk1
  have hb2 := Votes.isum_bd (Votes.curL l tr at_) hbd k
  refine Jw (hN10 _ _ (Jb [(8,.pointer _),(11,.int _ _),(12,.bool _),(26,.slice _ _ _),(27,.int _ _),(28,.int _ _)] ⟨U,U,U,U,U,U,O⟩ fun σ => Jg fun N11 hN11 => Kn (Jg fun N12 hN12 => Jk (Jd (Jz Tryz.underlying74 Tryz.sizeOf3 U U U (by omega) (by omega)) U U U (Jd (Jq Tryz.isAgg3 U (cell_seal 1 U (by rw [block_add]; exact hlo2) (hcv 0 _ U))) U U U (Jd (Jh U) U U U (Ja (hN12 _ _ ?_))))))))
  refine Jb [(8,.pointer _),(11,.int _ _),(12,.bool _),(14,.int _ _),(26,.slice _ _ _),(27,.int _ _),(28,.int _ _)] ⟨U,U,U,U,U,U,U,O⟩ fun σ => Jg fun N13 hN13 => Jk (Jd (Jf U) U U U (Jd (Jf U) U U U (Jd (Kr U U ⟨by omega,by omega⟩) U U U (Jd (Jh U) U U U (Ja (hN13 _ _ (Jb [(8,.pointer _),(11,.int _ _),(12,.bool _),(14,.int _ _),(26,.slice _ _ _),(27,.int _ _),(28,.int _ _)] ⟨U,U,U,U,U,U,U,O⟩ fun σ => Jk (Jd (Jn U) U U U ?_))))))))
  refine Jd (Jn U) U U U ?_
  refine Kh (want := false) U U U U U U (fun hg36 => ?_) (fun hg36 => ?_)
  have hg36d := hg36
  refine Jd (Je (Jf U)) U U U (Js U U U U hg36 (Jd (Je (Mc U U)) U U U (Jd (Jp U hg36 U) U U U (Jd (Ji U) U U U (Ja (hN11 _ _ (Jb [(8,.pointer _),(11,.int _ _),(12,.bool _),(26,.slice _ _ _),(27,.int _ _),(28,.int _ _)] ⟨U,U,U,U,U,U,O⟩ fun σ => Jk (Jd (Kr U U ⟨by omega,by omega⟩) U U U ?_))))))))
  refine Jd (Jf U) U U U (Ja ?_)
  refine Kt (k + 1) (by omega) (show k + 1 ≤ _ by omega) ⟨(congrArg (Value.int .i64) hs1.symm),(congrArg Value.bool (by rw [ha1,hg36d]; rfl)),U,trivial⟩ ⟨U,U,U,O⟩ ⟨_,U⟩
  have hg36d := hg36
  refine Jj U U U U hg36 U U (Jd (Jo U hg36 U) U U U (Jd (Ji U) U U U (Ja (hN11 _ _ (Jb [(8,.pointer _),(11,.int _ _),(12,.bool _),(26,.slice _ _ _),(27,.int _ _),(28,.int _ _)] ⟨U,U,U,U,U,U,O⟩ fun σ => Jk (Jd (Kr U U ⟨by omega,by omega⟩) U U U (Jd (Jf U) U U U (Ja ?_))))))))
  refine Kt (k + 1) (by omega) (show k + 1 ≤ _ by omega) ⟨(congrArg (Value.int .i64) hs1.symm),(congrArg Value.bool (by rw [ha1,hg36d]; rfl)),U,trivial⟩ ⟨U,U,U,O⟩ ⟨_,U⟩
  replace hc29 := odf hc29
  refine Mx ?_
  refine hN7 _ _ (Jb [(8,.pointer _),(11,.int _ _),(12,.bool _)] ⟨U,U,U,O⟩ fun σ => Jg fun N14 hN14 => Jk (Jd (Jf U) U U U (Jd (Jn U) U U U (Jd (Kd (vs := []) (cells := #[.int .i64 0,.int .i64 0]) U Qh) U U U (Jd (Jh U) U U U (Jd (Ji U) U U U (Jr 0 (v := .agg #[_,_]) (cs' := #[_,_]) U U Tryz.sizeOf33 U U U U (leb U) U U (Ja ?_))))))))
  refine hN14 _ _ (gT [box b8 _,seal_ _ _,box b10 _] U (Jb [(6,.int _ _),(7,.bool _),(8,.pointer _)] ⟨U,U,U,O⟩ fun σ => ?_))
  refine Ke fun w1 hM => ?_
  refine ⟨_,res3 rfl (rt (v := .int _ _) rfl) (rt (v := .bool _) rfl) (rc 0 (cs := [_,_]) hM rfl rfl Tryz.isAgg33 Tryz.sizeOf33 rfl),?_⟩
  have hall := List.take_of_length_le (l := Votes.curL l tr at_) (i := k) (by omega)
  exact ⟨by rw [hall,hc24]; rfl,hM.low⟩
end Go.Proofs.YtbkameioedmlkaaGreatDoor
namespace Go.Proofs.YtbkameioedmlkaaGreatDoor
open Go.RowKit Go.Cf
set_option maxRecDepth 10000
theorem bd29_0_1_3_4 (x1 : Int) (x2 : Int) (x3 : Int) (x4 : ByteArray) : Tryz.prog.built 29 [(0, .int .i64 x1), (1, .int .i64 x2), (3, .int .i64 x3), (4, .string x4)] = some #[.int .i64 x1, .int .i64 x2, .int .i64 0, .int .i64 x3, .string x4, .slice none 0 0] := by kernel_rfl
theorem bd92_2 (x1 : Option Addr) (x1l x1c : Nat) : Tryz.prog.built 92 [(2, .slice x1 x1l x1c)] = some #[.int .i64 0, .slice none 0 0, .slice x1 x1l x1c] := by kernel_rfl
theorem bd27_0 (x1 : Option Addr) (x1l x1c : Nat) : Tryz.prog.built 27 [(0, .slice x1 x1l x1c)] = some #[.slice x1 x1l x1c] := by kernel_rfl
theorem bd61_  : Tryz.prog.built 61 [] = some #[.slice none 0 0] := by kernel_rfl
theorem bd51_2 (x1 : Int) : Tryz.prog.built 51 [(2, .int .i64 x1)] = some #[.int .i64 0, .int .i64 0, .int .i64 x1] := by kernel_rfl
set_option maxHeartbeats 16000000 in
theorem nReviews_any (w : World) (hL : LaidP w) : Calls Tryz.prog 7 #[] w fun e w' => e = .returned (.bool true) ∧ Below w.heap.size w w' := by
 refine Kz Tryz.func7 U Tryz.ntmps7 (leb U) ?_
 refine Jb [] trivial fun σ => Jg fun N1 hN1 => Jk (Jd (Ji U) U U U (Ja (hN1 _ _ (Jb [] trivial fun σ => Jg fun N2 hN2 => Jk (Jd (Kd (vs := [(0,_),(1,_),(3,_),(4,_)]) (cells := #[_,_,.int .i64 0,_,_,.slice none 0 0]) U (bd29_0_1_3_4 _ _ _ _)) U U U ?_)))))
 refine Qo (vs := [.agg #[_,_,_,_,_,_]]) (cells := #[_,_,_,_,_,_]) Tryz.underlying30 Tryz.sizeOf29 Tryz.zeroValue29 U (by decide) (by decide) U U U U (fun b16 hb16 => ?_)
 refine Jd (Kx (v := .slice (some _) _ _) U) U U U (Ja (hN2 _ _ (gT [box b16 _] U (Jb [(1,.slice (some _) _ _)] ⟨U,O⟩ fun σ => Jg fun N3 hN3 => Jk ?_))))
 refine Qo (vs := [.string _]) (cells := #[_]) Tryz.underlying22 Tryz.sizeOf9 Tryz.zeroValue9 U (by decide) (by decide) U U U U (fun b18 hb18 => ?_)
 refine Jd (Ju (v := .slice (some _) _ _) U) U U U ?_
 refine gop_new (fun lo ws v => ∃ v1 v2,v = .tuple #[v1,v2,fv ⟨0,0⟩] ∧ NewL 5 thrCells [⟨1,0,1,false,false⟩] lo ws v1 ∧ NewL 1 strCells [xA] lo ws v2) (Kb (vs := [.slice (some _) _ _,.slice (some _) _ _]) Tryz.func8 U (by kernel_rfl) U) (fun w hM => by have he : EvsR w 0 (some ⟨b16,0,none⟩) [⟨1,1,0,0,nWhy,none,0,[]⟩] := ⟨((Rdl.of_box 0 (f := evCells) (fun _ => rfl) hM rfl rfl).mono (Nat.zero_le _)),fun e he => (by obtain rfl := List.mem_singleton.1 he; exact ⟨PatR.nil⟩)⟩; have hc := run_any w (some ⟨b18,0,none⟩) 1 [xA] ((Rdl.of_box 1 (f := strCells) (fun _ => rfl) hM rfl rfl).mono (Nat.zero_le _)) (SB.lit 1 (by decide) (by decide)) (some ⟨b16,0,none⟩) 1 [⟨1,1,0,0,nWhy,none,0,[]⟩] he (by simp [maxLen]); rw [show runV [xA] (evs [⟨1,1,0,0,nWhy,none,0,[]⟩]) = _ from nex_run] at hc; exact hc.mono fun _ _ ⟨v1,v2,h1,h2,h3,h4⟩ => ⟨_,h1,h2,v1,v2,rfl,h3,h4⟩) U U U ?_
 rintro _ lo20 ws20 hlo20 ⟨_,_,rfl,⟨A20,c20,rfl,hcc20,hcm20,hr20⟩,⟨B20,d20,rfl,hdc20,hdm20,hq20⟩⟩
 refine Jd (Ju (v := .tuple #[.slice _ _ _,.slice _ _ _,.agg #[_,_]]) U) U U U (Jd (Qz U U) U U U (Jd (Qz U U) U U U (Jd (Mw (v := .agg #[_,_]) U U) U U U ?_)))
 refine Ka (cs := #[.int .i64 0,.int .i64 0]) Tryz.zeroValue33 U U (fun b4 hb4 => ?_)
 refine Jd (Kq U) U U U (Jd (Kq U) U U U (Jr 3 (v := .agg #[_,_]) (cs' := #[_,_]) U U Tryz.sizeOf33 U U U U (leb U) U U (Ja (hN3 _ _ (gT [box b16 _,box b18 _,seal_ _ _,box b4 _] U (Jb [(2,.slice _ _ _),(4,.pointer _)] ⟨U,U,O⟩ fun σ => Jg fun N4 hN4 => Jk ?_))))))
 refine Qo (vs := [.string _]) (cells := #[_]) Tryz.underlying22 Tryz.sizeOf9 Tryz.zeroValue9 U (by decide) (by decide) U U U U (fun b25 hb25 => ?_)
 refine Jd (Kd (vs := [(2,.slice (some _) _ _)]) (cells := #[.int .i64 0,.slice none 0 0,_]) U (bd92_2 _ _ _)) U U U ?_
 refine Qo (vs := [.agg #[_,_,_]]) (cells := #[_,_,_]) Tryz.underlying25 Tryz.sizeOf92 Tryz.zeroValue92 U (by decide) (by decide) U U U U (fun b27 hb27 => ?_)
 refine Jd (Kd (vs := [(0,.slice (some _) _ _)]) (cells := #[_]) U (bd27_0 _ _ _)) U U U ?_
 refine Qo (vs := [.agg #[_]]) (cells := #[_]) Tryz.underlying23 Tryz.sizeOf27 Tryz.zeroValue27 U (by decide) (by decide) U U U U (fun b29 hb29 => ?_)
 refine Km (Kb (vs := [.slice (some _) _ _,_]) Tryz.func9 U (by kernel_rfl) U) (fun w hM => by have hp : PatsR w 0 (some ⟨b29,0,none⟩) [⟨some ⟨b27,0,none⟩,1,[⟨⟨0,[],[nX]⟩,none,0,some ⟨b25,0,none⟩,1⟩]⟩] := ⟨((Rdl.of_box 6 (f := patCells) (fun _ => rfl) hM rfl rfl).mono (Nat.zero_le _)),fun p hp => (by obtain rfl := List.mem_singleton.1 hp; exact ⟨((Rdl.of_box 5 (f := hunkCells) (fun _ => rfl) hM rfl rfl).mono (Nat.zero_le _)),fun h hh => (by obtain rfl := List.mem_singleton.1 hh; exact ⟨Rdl.nil,((Rdl.of_box 4 (f := strCells) (fun _ => rfl) hM rfl rfl).mono (Nat.zero_le _)),SB.none _,SB.lit 1 (by decide) (by decide),(by show In64 0; unfold In64; decide)⟩),SB.lit 1 (by decide) (by decide)⟩)⟩; have hc := through_any w (some ⟨b29,0,none⟩) 1 [⟨some ⟨b27,0,none⟩,1,[⟨⟨0,[],[nX]⟩,none,0,some ⟨b25,0,none⟩,1⟩]⟩] hp (by simp [maxLen]) 0; rw [show throughV (List.map PatC.pl [⟨some ⟨b27,0,none⟩,1,[⟨⟨0,[],[nX]⟩,none,0,some ⟨b25,0,none⟩,1⟩]⟩]) 0 = _ from nex_thr,show throughF (List.map PatC.pl [⟨some ⟨b27,0,none⟩,1,[⟨⟨0,[],[nX]⟩,none,0,some ⟨b25,0,none⟩,1⟩]⟩]) 0 = _ from nex_thrF] at hc; exact hc) U U U ?_
 refine Jd (Ju (v := .tuple #[.int _ _,.int _ _,.agg #[_,_]]) U) U U U (Jd (Mg U U) U U U (Jd (Mg U U) U U U (Jd (Mw (v := .agg #[_,_]) U U) U U U ?_)))
 refine Ka (cs := #[.int .i64 0,.int .i64 0]) Tryz.zeroValue33 U U (fun b7 hb7 => ?_)
 refine Jd (Jh U) U U U (Jd (Jh U) U U U (Jr 7 (v := .agg #[_,_]) (cs' := #[_,_]) U U Tryz.sizeOf33 U U U U (leb U) U U (Ja (hN4 _ _ (gT [box b16 _,box b18 _,seal_ _ _,box b4 _,box b25 _,box b27 _,box b29 _,box b7 _] U (Jb [(2,.slice _ _ _),(4,.pointer _),(5,.int _ _),(6,.int _ _),(7,.pointer _)] ⟨U,U,U,U,U,O⟩ fun σ => Jg fun N5 hN5 => Jk (Jd (Kd (vs := []) (cells := #[.slice none 0 0]) U bd61_) U U U ?_)))))))
 refine Qo (vs := [.string _]) (cells := #[_]) Tryz.underlying22 Tryz.sizeOf9 Tryz.zeroValue9 U (by decide) (by decide) U U U U (fun b36 hb36 => ?_)
 refine My (fun v T' => ∃ lo u,v = .tuple #[u,fv ⟨0,0⟩] ∧ w.heap.size ≤ lo ∧ T' = [rowl apprCells lo 70 3 (u) ([⟨1,xA,-1⟩])]) (Kb (vs := [.agg #[_],_,.slice (some _) _ _]) Tryz.func26 U (by kernel_rfl) U) (fun w hM => by have h0 : TreeR w 0 none 0 [] := ⟨Rdl.nil,fun _ h => (by cases h),⟨Nat.le_refl _,Nat.zero_le _,fun _ => rfl,by decide⟩⟩; have hp : Rdl w 0 1 strCells (some ⟨b36,0,none⟩) [xA] := ((Rdl.of_box 8 (f := strCells) (fun _ => rfl) hM rfl rfl).mono (Nat.zero_le _)); have hc : Calls Tryz.prog 26 #[.agg #[.slice none 0 0],.int .i64 1,.slice (some ⟨b36,0,none⟩) 1 1] w fun e w' => ∃ v T',e = .returned (.tuple #[v,fv (approveF [] 1 [xA])]) ∧ T' = [rowl apprCells w.heap.size 70 3 (v) (approveV [] 1 [xA])] ∧ Mem w T' w' := JQ w none 0 [] h0 1 _ 1 [xA] hp (Nat.le_refl _) (by simp [maxLen]); rw [nex_app,nex_apl] at hc; exact hc.mono fun _ _ ⟨v,T1,h1,h2,h3⟩ => ⟨_,T1,h1,⟨_,v,rfl,hM.low.size,h2⟩,h3⟩) U U U ?_
 rintro _ _ ⟨lo37,u37,rfl,hlo37,rfl⟩
 refine Ky (fun w hM => Mz (hM.ok _ (List.mem_of_getElem? (i := 9) U))) ?_
 rintro ⟨A37,c37,rfl,hc37,hm37,hn37⟩
 refine Jd (Ju (v := .tuple #[.slice A37 _ c37,.agg #[_,_]]) U) U U U (Jd (Qz U U) U U U (Jd (Mw (v := .agg #[_,_]) U U) U U U ?_))
 refine Ka (cs := #[.int .i64 0,.int .i64 0]) Tryz.zeroValue33 U U (fun b9 hb9 => ?_)
 refine Jd (Kq U) U U U (Jr 10 (v := .agg #[_,_]) (cs' := #[_,_]) U U Tryz.sizeOf33 U U U U (leb U) U U (Ja (hN5 _ _ (gT [box b16 _,box b18 _,seal_ _ _,box b4 _,box b25 _,box b27 _,box b29 _,box b7 _,box b36 _,rowl _ _ _ _ _ _,box b9 _] U (Jb [(2,.slice _ _ _),(4,.pointer _),(5,.int _ _),(6,.int _ _),(7,.pointer _),(8,.slice _ _ _),(9,.pointer _)] ⟨U,U,U,U,U,U,U,O⟩ fun σ => Jg fun N6 hN6 => Jk ?_)))))
 refine gop_new (fun lo ws v => ∃ v1,v = .tuple #[.agg #[v1],fv ⟨0,0⟩] ∧ NewL 4 pnCells (parR nOwn).2 lo ws v1) (Kb (vs := [_]) Tryz.func27 U (by kernel_rfl) U) (fun w hM => by have hc := polParse_any w nOwn (hL.base hM) (by decide); rw [nex_par] at hc; exact hc.mono fun _ _ ⟨v1,h1,h2,h3⟩ => ⟨_,h1,h2,v1,rfl,h3⟩) U U U ?_
 rintro _ lo41 ws41 hlo41 ⟨_,rfl,A41,c41,rfl,hcc41,hcm41,hr41⟩
 refine Jd (Ju (v := .tuple #[.agg #[.slice _ _ _],.agg #[_,_]]) U) U U U (Jd (Mw (v := .agg #[_]) U U) U U U (Jd (Mw (v := .agg #[_,_]) U U) U U U ?_))
 refine Ka (cs := #[.slice none 0 0]) Tryz.zeroValue43 U U (fun b10 hb10 => ?_)
 refine Ka (cs := #[.int .i64 0,.int .i64 0]) Tryz.zeroValue33 U U (fun b11 hb11 => ?_)
 refine Jr 12 (v := .agg #[_]) (cs' := #[_]) U U Tryz.sizeOf43 U U U U (leb U) U U (Jr 13 (v := .agg #[_,_]) (cs' := #[_,_]) U U Tryz.sizeOf33 U U U U (leb U) U U (Ja (hN6 _ _ (gT [box b16 _,box b18 _,seal_ _ _,box b4 _,box b25 _,box b27 _,box b29 _,box b7 _,box b36 _,rowl _ _ _ _ _ _,box b9 _,seal_ _ _,box b10 _,box b11 _] U (Jb [(2,.slice _ _ _),(4,.pointer _),(5,.int _ _),(6,.int _ _),(7,.pointer _),(8,.slice _ _ _),(9,.pointer _),(10,.pointer _),(11,.pointer _)] ⟨U,U,U,U,U,U,U,U,U,O⟩ fun σ => Jg fun N7 hN7 => Jk (Jd (Kd (vs := [(2,_)]) (cells := #[.int .i64 0,.int .i64 0,_]) U (bd51_2 _)) U U U ?_))))))
 refine Qo (vs := [.agg #[_,_,_]]) (cells := #[_,_,_]) Tryz.underlying49 Tryz.sizeOf51 Tryz.zeroValue51 U (by decide) (by decide) U U U U (fun b46 hb46 => ?_)
 refine Qo (vs := [.bool _]) (cells := #[_]) Tryz.underlying46 Tryz.sizeOf4 Tryz.zeroValue4 U (by decide) (by decide) U U U U (fun b47 hb47 => ?_)
 refine Km (Kb (vs := [.slice (some _) _ _,.slice (some _) _ _,_]) Tryz.func10 U (by kernel_rfl) U) (fun w hM => by have hc := score_any w (some ⟨b46,0,none⟩) 1 [⟨0,0,2⟩] (some ⟨b47,0,none⟩) 1 [false] ((Rdl.of_box 14 (f := voteCells) (fun _ => rfl) hM rfl rfl).mono (Nat.zero_le _)) ((Rdl.of_box 15 (f := boolCells) (fun _ => rfl) hM rfl rfl).mono (Nat.zero_le _)) (by simp [maxLen]) (by simp [maxLen]) (Nat.le_refl _) 0; rw [nex_sc,nex_sv,nex_sf] at hc; exact hc) U U U ?_
 refine Jd (Ju (v := .tuple #[.int _ _,.bool _,.agg #[_,_]]) U) U U U (Jd (Mg U U) U U U (Jd (Mi U U) U U U (Jd (Mw (v := .agg #[_,_]) U U) U U U ?_)))
 refine Ka (cs := #[.int .i64 0,.int .i64 0]) Tryz.zeroValue33 U U (fun b14 hb14 => ?_)
 refine Jd (Jh U) U U U (Jd (Ji U) U U U (Jr 16 (v := .agg #[_,_]) (cs' := #[_,_]) U U Tryz.sizeOf33 U U U U (leb U) U U (Ja (hN7 _ _ (gT [box b16 _,box b18 _,seal_ _ _,box b4 _,box b25 _,box b27 _,box b29 _,box b7 _,box b36 _,rowl _ _ _ _ _ _,box b9 _,seal_ _ _,box b10 _,box b11 _,box b46 _,box b47 _,box b14 _] U (Jb [(2,.slice _ _ _),(4,.pointer _),(5,.int _ _),(6,.int _ _),(7,.pointer _),(8,.slice _ _ _),(9,.pointer _),(10,.pointer _),(11,.pointer _),(12,.int _ _),(13,.bool _),(14,.pointer _)] ⟨U,U,U,U,U,U,U,U,U,U,U,U,O⟩ fun σ => Jg fun N8 hN8 => Jk (Jd (Jc Uo U) U U U (Jd (Jq Tryz.isAgg3 U (Jm 3 U U)) U U U ?_))))))))
 refine Jd (Mc U U) U U U (Jd (Jn U) U U U ?_)
 refine Kh (want := true) U U U U U U (fun hg55 => ?_) (fun hg55 => ?_)
 have hg55d := odt hg55
 refine Jd (Je (Jc Uo U)) U U U (Js U U U U hg55 (Jd (Je (Jq Tryz.isAgg3 U (Jm 7 U U))) U U U (Js U U U U hg55 (Jd (Je (Mc U U)) U U U (Jd (Jo U hg55 U) U U U (Jd (Jn U) U U U ?_))))))
 refine Kh (want := true) U U U U U U (fun hg60 => ?_) (fun hg60 => ?_)
 have hg60d := odt hg60
 refine Jd (Je (Jc Uo U)) U U U (Js U U U U hg60 (Jd (Je (Jq Tryz.isAgg3 U (Jm 10 U U))) U U U (Js U U U U hg60 (Jd (Je (Mc U U)) U U U (Jd (Jo U hg60 U) U U U (Jd (Jn U) U U U ?_))))))
 refine Kh (want := true) U U U U U U (fun hg65 => ?_) (fun hg65 => ?_)
 have hg65d := odt hg65
 refine Jd (Je (Jc Uo U)) U U U (Js U U U U hg65 (Jd (Je (Jq Tryz.isAgg3 U (Jm 13 U U))) U U U (Js U U U U hg65 (Jd (Je (Mc U U)) U U U (Jd (Jo U hg65 U) U U U (Jd (Jn U) U U U ?_))))))
 refine Kh (want := true) U U U U U U (fun hg70 => ?_) (fun hg70 => ?_)
 have hg70d := odt hg70
 refine Jd (Je (Jc Uo U)) U U U (Js U U U U hg70 (Jd (Je (Jq Tryz.isAgg3 U (Jm 16 U U))) U U U (Js U U U U hg70 (Jd (Je (Mc U U)) U U U (Jd (Jo U hg70 U) U U U (Jd (Jn U) U U U ?_))))))
 refine Kh (want := true) U U U U U U (fun hg75 => ?_) (fun hg75 => ?_)
 have hg75d := odt hg75
 refine Jd (Je (Kl U)) U U U (Js U U U U hg75 (Jd (Je (Ks Tryz.underlying31 U)) U U U (Js U U U U hg75 (Jd (Je (Mc U U)) U U U (Jd (Jo U hg75 U) U U U (Jd (Jn U) U U U ?_))))))
 refine Kh (want := true) U U U U U U (fun hg80 => ?_) (fun hg80 => ?_)
 have hg80d := odt hg80
 refine Jd (Je (Jf U)) U U U (Js U U U U hg80 (Jd (Je (Mc U U)) U U U (Jd (Jo U hg80 U) U U U (Jd (Jn U) U U U ?_))))
 refine Kh (want := true) U U U U U U (fun hg84 => ?_) (fun hg84 => ?_)
 have hg84d := odt hg84
 refine Jd (Je (Jf U)) U U U (Js U U U U hg84 (Jd (Je (Mc U U)) U U U (Jd (Jo U hg84 U) U U U (Jd (Jn U) U U U ?_))))
 refine Kh (want := true) U U U U U U (fun hg88 => ?_) (fun hg88 => ?_)
 have hg88d := odt hg88
 refine Jd (Je (Kl U)) U U U (Js U U U U hg88 (Jd (Je (Ks Tryz.underlying58 U)) U U U (Js U U U U hg88 (Jd (Je (Mc U U)) U U U (Jd (Jo U hg88 U) U U U (Jd (Jn U) U U U ?_))))))
 refine Kh (want := true) U U U U U U (fun hg93 => ?_) (fun hg93 => ?_)
 have hg93d := odt hg93
 refine Jd (Je (Jc fa43_0 U)) U U U (Js U U U U hg93 (Jd (Je (Jq Tryz.isAgg41 U (Jm 12 U U))) U U U (Js U U U U hg93 (Jd (Je (Ks Tryz.underlying41 U)) U U U (Js U U U U hg93 (Jd (Je (Mc U U)) U U U (Jd (Jo U hg93 U) U U U (Jd (Jn U) U U U ?_))))))))
 refine Kh (want := true) U U U U U U (fun hg99 => ?_) (fun hg99 => ?_)
 have hg99d := odt hg99
 refine Jd (Je (Jf U)) U U U (Js U U U U hg99 (Jd (Je (Mc U U)) U U U (Jd (Jo U hg99 U) U U U (Jd (Jn U) U U U ?_))))
 refine Kh (want := true) U U U U U U (fun hg103 => ?_) (fun hg103 => ?_)
 have hg103d := odt hg103
 refine Jd (Je (Jn U)) U U U (Js U U U U hg103 (Jd (Je (Mp U)) U U U (Jd (Jo U hg103 U) U U U (Jd (Ji U) U U U (Ja (hN8 _ _ (Jb [(0,.bool _)] ⟨U,O⟩ fun σ => ?_)))))))
 refine Ke fun w1 hM => ?_
 refine ⟨_,res1 rfl (rt (v := .bool _) rfl),?_⟩
 exact ⟨rfl,hM.low⟩
 exact absurd hg103 (by first | decide | simp)
 rw [nex_parl] at hg99; exact absurd hg99 (by decide)
 exact absurd hg93 (by first | decide | simp)
 exact absurd hg88 (by first | decide | simp)
 exact absurd hg84 (by first | decide | simp)
 exact absurd hg80 (by first | decide | simp)
 exact absurd hg75 (by first | decide | simp)
 exact absurd hg70 (by first | decide | simp)
 exact absurd hg65 (by first | decide | simp)
 exact absurd hg60 (by first | decide | simp)
 exact absurd hg55 (by first | decide | simp)
end Go.Proofs.YtbkameioedmlkaaGreatDoor
namespace Go.Cf
open Go.RowKit
section
variable {P : Program} {w0 : World} {T : List Reg} {ρ : Env} {dst : Option Tmp} {ty t : TypeId} {pos : String} {af : Array Edge} {gd : Option (Nat × Bool)} {x y z m : Operand} {e : TypeId}
theorem y_cap (ht : P.underlying t = some (.slice e)) {A : Option Addr} {n c : Nat} (hx : ev ρ x = .slice A n c) :
    Yield P w0 T ρ ⟨dst, .call { callee := .builtin .cap, args := #[x], argTypes := #[t] }, ty, pos, af, gd⟩ (.int .i64 (c : Int)) := fun w _ => by
  have he : P.elem t = e := by simp [Program.elem, ht]
  have h := run_cap_slice (P := P) w t ty A n c (by rw [he]; exact ht)
  simp [execOp, resolve, invoke, builtin, hx, h, goInt]
theorem y_slice3 {s n c l h k : Nat} {A : Option Addr} (ht : P.underlying t = some (.slice e)) (hs : ∀ w, (sizeOf e).run P w = .ok s w)
    (hx : ev ρ x = .slice A n c) (hy : ev ρ y = .int .i64 (l : Int)) (hz : ev ρ z = .int .i64 (h : Int)) (hm : ev ρ m = .int .i64 (k : Int)) (h1 : l ≤ h) (h2 : h ≤ k) (h3 : k ≤ c) :
    Yield P w0 T ρ ⟨dst, .slice t x (some y) (some z) (some m), ty, pos, af, gd⟩ (sliced A l h k s) := fun w _ => by
  have he : P.elem t = e := by simp [Program.elem, ht]
  have ht' : P.underlying t = some (.slice (P.elem t)) := by rw [he]; exact ht
  have hb : (Instr.sliceBounds true n c (some (.int .i64 (l : Int))) (some (.int .i64 (h : Int))) (some (.int .i64 (k : Int)))).run P w = .ok (l, h, k) w := by
    simp [Instr.sliceBounds, run_sliceBound, h1, h2, h3]
  have h4 := run_slice_any (P := P) w t A n c ht' (some (.int .i64 (l : Int))) (some (.int .i64 (h : Int))) (some (.int .i64 (k : Int)))
  rw [hb, he] at h4
  simp only [Result.andThen, hs] at h4
  simp [execOp, hx, hy, hz, hm, run_sliceAt_slice w t _ _ _ _ ht', h4]
theorem Yn {s g n c k : Nat} {lo : Int} (ht : P.underlying t = some (.slice e)) (hs : ∀ w, (sizeOf e).run P w = .ok s w) (hx : ev ρ x = .slice (some ⟨g, 0, none⟩) n c) (hy : ev ρ y = .int .i64 lo) (hlo : lo = (k : Int)) (h1 : k ≤ n) (h2 : k < c) :
    Yield P w0 T ρ ⟨dst, .slice t x (some y) none none, ty, pos, af, gd⟩ (.slice (some ⟨g, k * s, none⟩) (n - k) (c - k)) := by
  subst hlo
  have h := QM (P := P) (w0 := w0) (T := T) (dst := dst) (ty := ty) (pos := pos) (af := af) (gd := gd) ht hs hx hy (by omega) (by omega)
  have e1 : sliced (some ⟨g, 0, none⟩) (k : Int).toNat n c s = .slice (some ⟨g, k * s, none⟩) (n - k) (c - k) := by
    unfold sliced
    rw [Int.toNat_natCast, if_neg (by omega)]
    simp [Addr.add_lit]
  rwa [e1] at h
theorem y_fromA {s g n c k : Nat} {lo : Int} (ht : P.underlying t = some (.slice e)) (hs : ∀ w, (sizeOf e).run P w = .ok s w) (hx : ev ρ x = .slice (some ⟨g, 0, none⟩) n c) (hy : ev ρ y = .int .i64 lo) (hlo : lo = (k : Int)) (h1 : k ≤ n) {ad : Addr} (had : ad = if c = k then ⟨g, 0, none⟩ else ⟨g, k * s, none⟩) :
    Yield P w0 T ρ ⟨dst, .slice t x (some y) none none, ty, pos, af, gd⟩ (.slice (some ad) (n - k) (c - k)) := by
  subst hlo
  have h := QM (P := P) (w0 := w0) (T := T) (dst := dst) (ty := ty) (pos := pos) (af := af) (gd := gd) ht hs hx hy (by omega) (by omega)
  have e1 : sliced (some ⟨g, 0, none⟩) (k : Int).toNat n c s = .slice (some ad) (n - k) (c - k) := by
    unfold sliced
    rw [Int.toNat_natCast, had]
    by_cases hck : c = k
    · rw [if_pos hck, if_pos hck]
    · rw [if_neg hck, if_neg hck]
      simp [Addr.add_lit]
  rwa [e1] at h
theorem y_range {s g n c k j : Nat} {lo hi : Int} (ht : P.underlying t = some (.slice e)) (hs : ∀ w, (sizeOf e).run P w = .ok s w) (hx : ev ρ x = .slice (some ⟨g, 0, none⟩) n c) (hy : ev ρ y = .int .i64 lo) (hz : ev ρ z = .int .i64 hi) (hlo : lo = (k : Int)) (hhi : hi = ((k + j : Nat) : Int)) (h1 : k + j ≤ c) (h2 : k < c) :
    Yield P w0 T ρ ⟨dst, .slice t x (some y) (some z) none, ty, pos, af, gd⟩ (.slice (some ⟨g, k * s, none⟩) j (c - k)) := by
  subst hlo hhi
  have h := y_slice (P := P) (w0 := w0) (T := T) (dst := dst) (ty := ty) (pos := pos) (af := af) (gd := gd) ht hs hx hy hz (by omega) (by omega) (by omega)
  have e1 : sliced (some ⟨g, 0, none⟩) (k : Int).toNat ((k + j : Nat) : Int).toNat c s = .slice (some ⟨g, k * s, none⟩) j (c - k) := by
    unfold sliced
    rw [Int.toNat_natCast, Int.toNat_natCast, if_neg (by omega), Nat.add_sub_cancel_left]
    simp [Addr.add_lit]
  rwa [e1] at h
end
theorem flat_tk {α : Type} {f : α → List Value} {size : Nat} (hf : ∀ x, (f x).length = size) : ∀ (l : List α) (k : Nat), (l.flatMap f).take (k * size) = (l.take k).flatMap f
  | [], k => by simp
  | x :: l, 0 => by simp
  | x :: l, k + 1 => by
    rw [List.flatMap_cons, List.take_succ_cons, List.flatMap_cons, Nat.add_mul, Nat.one_mul, Nat.add_comm, ← hf x, List.take_length_add_append, hf x, flat_tk hf l k]
section
variable {w0 w : World} {T : List Reg} {α : Type} {f : α → List Value}
theorem row_to_box (i : Nat) {l : List α} {size base g n c : Nat} {e : TypeId} (hM : Mem w0 T w) (hi : T[i]? = some (rowl f base e size (.slice (some ⟨g, 0, none⟩) n c) l)) :
    ∃ cur : Array Value, cur.size = c * size ∧ cur.toList.take (l.length * size) = l.flatMap f ∧ l.length ≤ c ∧ c ≤ maxLen ∧ n = l.length ∧ Mem w0 (T.set i (box g (.cells cur e))) w := by
  have ho : w.ownsRow base e size (.slice (some ⟨g, 0, none⟩) n c) l.length (l.flatMap f) := hM.ok _ (List.mem_of_getElem? hi)
  have hlt := hM.lt _ (List.mem_of_getElem? hi) g rfl
  rcases ho.2 with ⟨h1, _⟩ | ⟨g', cap, cur, h1, h2, h3, h4, h5, h6, h7⟩
  · cases h1
  · simp only [Value.slice.injEq, Option.some.injEq, Addr.mk.injEq] at h1
    obtain ⟨⟨rfl, -, -⟩, rfl, rfl⟩ := h1
    refine ⟨cur, h6, h7, h4, h5, rfl, ?_⟩
    refine hM.upd hi (Chg.of_below (Below.refl _ _)) h3 (fun k hk => ?_)
    have hk' : k = g := hk
    subst hk'
    exact ⟨.inl rfl, hlt⟩
theorem box_to_row (i : Nat) {l : List α} {size g n c : Nat} {e : TypeId} {cs : Array Value} (hf : ∀ x, (f x).length = size) (hM : Mem w0 T w) (hi : T[i]? = some (box g (.cells cs e))) (hs : cs.size = c * size) (ht : cs.toList.take (n * size) = l.flatMap f) (hn : n = l.length) (hc : n ≤ c) (hm : c ≤ maxLen) :
    Mem w0 (T.set i (rowl f w0.heap.size e size (.slice (some ⟨g, 0, none⟩) n c) l)) w := by
  subst hn
  have hb : w.heap[g]? = some (.cells cs e (0, 0)) := hM.ok _ (List.mem_of_getElem? hi)
  have hlt := hM.lt _ (List.mem_of_getElem? hi) g rfl
  refine hM.upd hi (Chg.of_below (Below.refl _ _)) ⟨Qb hf l, .inr ⟨g, c, cs, rfl, hM.ge _ (List.mem_of_getElem? hi) g rfl, hb, hc, hm, hs, ht⟩⟩ (fun k hk => ?_)
  have hk' : some g = some k := hk
  injection hk' with hk'
  subst hk'
  exact ⟨.inl rfl, hlt⟩
end
theorem set_same {α : Type} {l : List α} {i : Nat} {a b : α} (h : l[i]? = some a) : (l.set i b)[i]? = some b := by
  have := (List.getElem?_eq_some_iff.1 h).1
  simp [this]
section
variable {P : Program} {w0 w : World} {T : List Reg} {α : Type} {f : α → List Value}
theorem mem_put (i : Nat) {l l2 : List α} {size k n n' c g : Nat} {e : TypeId} (hf : Wide f size) (hM : Mem w0 T w) (hi : T[i]? = some (rowl f w0.heap.size e size (.slice (some ⟨g, 0, none⟩) n c) l)) (hk : k ≤ l.length) (hm : k + l2.length ≤ c) (hn : n' ≤ k + l2.length) :
    ∃ w', (storeCells ⟨g, k * size, none⟩ (l2.flatMap f) 0).run P w = .ok () w' ∧ Mem w0 (T.set i (rowl f w0.heap.size e size (.slice (some ⟨g, 0, none⟩) n' c) ((l.take k ++ l2).take n'))) w' := by
  have hfl : ∀ x, (f x).length = size := fun x => (hf x).1
  obtain ⟨cur, hs, ht, hlc, hcm, -, hMb⟩ := row_to_box i hM hi
  have hxs : (l2.flatMap f).length = l2.length * size := Qb hfl l2
  have hmul : k * size + (l2.flatMap f).length ≤ c * size := by rw [hxs, ← Nat.add_mul]; exact Nat.mul_le_mul_right _ hm
  obtain ⟨w', hr, hM'⟩ := mem_store (P := P) (off := k * size) (l2.flatMap f) w hMb (set_same hi) (fun u hu => by obtain ⟨x, _, hx⟩ := List.mem_flatMap.1 hu; exact (hf x).2 u hx) (by rw [hs]; exact hmul)
  rw [List.set_set] at hM'
  refine ⟨w', hr, ?_⟩
  have hlen : ((l.take k ++ l2).take n').length = n' := by
    rw [List.length_take, List.length_append, List.length_take]; omega
  have hcur : cur.toList.length = c * size := by rw [Array.length_toList]; exact hs
  have hpre : cur.toList.take (k * size) = (l.take k).flatMap f := by
    have h1 := congrArg (List.take (k * size)) ht
    rw [List.take_take, flat_tk hfl, Nat.min_eq_left (Nat.mul_le_mul_right _ hk)] at h1
    exact h1
  have hput : (putAt cur (k * size) (l2.flatMap f)).toList = (l.take k).flatMap f ++ l2.flatMap f ++ cur.toList.drop (k * size + (l2.flatMap f).length) := by
    have h1 := Xp (l2.flatMap f) cur.toList (k * size)
    rw [Array.toArray_toList] at h1
    rw [h1]
    show setCells cur.toList (k * size) (l2.flatMap f) = _
    have h2 : cur.toList = cur.toList.take (k * size) ++ (cur.toList.drop (k * size)).take (l2.flatMap f).length ++ cur.toList.drop (k * size + (l2.flatMap f).length) := by
      rw [← List.drop_drop, List.append_assoc, List.take_append_drop, List.take_append_drop]
    have h3 : (cur.toList.take (k * size)).length = k * size := by rw [List.length_take, hcur]; omega
    have h4 := Ys (l2.flatMap f) (cur.toList.take (k * size)) ((cur.toList.drop (k * size)).take (l2.flatMap f).length) (cur.toList.drop (k * size + (l2.flatMap f).length)) (by rw [List.length_take, List.length_drop, hcur]; omega)
    rw [← h2, h3] at h4
    rw [h4, hpre]
  have hM2 := box_to_row i (f := f) (l := (l.take k ++ l2).take n') (n := n') (c := c) (g := g) hfl hM' (set_same hi) ?_ ?_ hlen.symm (by omega) hcm
  · rw [List.set_set] at hM2; exact hM2
  · rw [← Array.length_toList, hput, List.length_append, List.length_append, List.length_drop, hcur, ← hpre, List.length_take, hcur]
    omega
  · rw [hput, ← List.flatMap_append, List.take_append_of_le_length, flat_tk hfl]
    rw [Qb hfl, List.length_append, List.length_take, Nat.min_eq_left hk]
    exact Nat.mul_le_mul_right _ hn
end
section
variable {P : Program} {n : Fr} {w0 : World} {N : Env → World → Prop} {ρ : Env} {T T' : List Reg} {full : Array Oper} {rest : List Oper} {d : Nat} {ty tx ts : TypeId} {pos : String} {af : Array Edge} {x y : Operand}
variable {α : Type} {f : α → List Value} {l l2 : List α} {size bytes k nn n' c g : Nat} {e : TypeId}
theorem firstCells_src {w : World} {A : Option Addr} {m sc : Nat} {xs : List Value} (hs : Src w size A m xs) : (Builtin.firstCells size m (.slice A m sc)).run P w = .ok xs.toArray w := by
  obtain ⟨hlen, hsr⟩ := hs
  cases A with
  | none =>
    have h0 : m = 0 := by
      rcases Nat.eq_zero_or_pos m with h0 | h0
      · exact h0
      · obtain ⟨ad, h2, _⟩ := hsr h0; cases h2
    subst h0
    have : xs = [] := List.eq_nil_of_length_eq_zero (by omega)
    subst this
    simp [Builtin.firstCells]
  | some ad =>
    have hcell : ∀ j u, xs[j]? = some u → w.cell? (ad.add j) = some u := by
      intro j u hu
      have hpos : 0 < m := by
        rcases Nat.eq_zero_or_pos m with h0 | h0
        · rw [h0, Nat.zero_mul] at hlen
          rw [List.eq_nil_of_length_eq_zero hlen] at hu
          simp at hu
        · exact h0
      obtain ⟨ad', h2, h3⟩ := hsr hpos
      cases h2
      exact h3 j u hu
    have hld := run_loadCells_list (P := P) w ad xs hcell
    rw [hlen] at hld
    simpa [Builtin.firstCells] using hld
theorem Zx (i : Nat) {ad : Addr} {dl dc sl sc : Nat} (ht : P.underlying tx = some (.slice e)) (hs : ∀ w, (sizeOf e).run P w = .ok size w)
    (hx : ev ρ x = .slice (some ⟨g, k * size, none⟩) dl dc) (hy : ev ρ y = .slice (some ad) sl sc) (hm : Nat.min sl dl = l2.length) (hsrc : ∀ w, Mem w0 T w → ∀ j u, (l2.flatMap f)[j]? = some u → w.cell? (ad.add j) = some u)
    (hf : Wide f size) (hi : T[i]? = some (rowl f w0.heap.size e size (.slice (some ⟨g, 0, none⟩) nn c) l)) (hk : k ≤ l.length) (hmc : k + l2.length ≤ c) (hn : n' ≤ k + l2.length) (hlt : Nat.blt d n.n = true)
    (h : gops P n w0 full rest N (upd ρ d (.int .i64 (l2.length : Int))) (T.set i (rowl f w0.heap.size e size (.slice (some ⟨g, 0, none⟩) n' c) ((l.take k ++ l2).take n')))) :
    gops P n w0 full (⟨some d, .call { callee := .builtin .copy, args := #[x, y], argTypes := #[tx, ts] }, ty, pos, af, none⟩ :: rest) N ρ T :=
  Zl (fun w hM => by
    obtain ⟨w', hr, hM'⟩ := mem_put (P := P) i (l2 := l2) (n' := n') hf hM hi hk hmc hn
    refine ⟨.int .i64 (l2.length : Int), w', ?_, h w' hM'⟩
    have hfc : (Builtin.firstCells size l2.length (.slice (some ad) sl sc)).run P w = .ok (l2.flatMap f).toArray w := by
      have hld := run_loadCells_list (P := P) w ad (l2.flatMap f) (hsrc w hM)
      rw [Qb (fun x => (hf x).1)] at hld
      simpa [Builtin.firstCells] using hld
    simp [execOp, resolve, invoke, builtin, hx, hy, Builtin.copy_, run_underlying ht, hs, Builtin.lenOf, hm, hfc, hr, goInt]) rfl rfl hlt
theorem gop_putappend (i : Nat) {A : Option Addr} {m sc : Nat} (ht : P.underlying tx = some (.slice e)) (he : Elem P e size bytes)
    (hx : ev ρ x = .slice (some ⟨g, 0, none⟩) k c) (hy : ev ρ y = .slice A m sc) (hm : m = l2.length) (hsrc : ∀ w, Mem w0 T w → Src w size A l2.length (l2.flatMap f))
    (hf : Wide f size) (hi : T[i]? = some (rowl f w0.heap.size e size (.slice (some ⟨g, 0, none⟩) nn c) l)) (hk : k ≤ l.length) (hmc : k + l2.length ≤ c) (hlt : Nat.blt d n.n = true)
    (h : gops P n w0 full rest N (upd ρ d (.slice (some ⟨g, 0, none⟩) (k + l2.length) c)) (T.set i (rowl f w0.heap.size e size (.slice (some ⟨g, 0, none⟩) (k + l2.length) c) (l.take k ++ l2)))) :
    gops P n w0 full (⟨some d, .call { callee := .builtin .append, args := #[x, y], argTypes := #[tx, tx] }, ty, pos, af, none⟩ :: rest) N ρ T :=
  Zl (fun w hM => by
    subst hm
    obtain ⟨ii, z, h1, h2, h3, h4, h5, h6⟩ := he
    obtain ⟨w', hr, hM'⟩ := mem_put (P := P) i (l2 := l2) (n' := k + l2.length) hf hM hi hk hmc (Nat.le_refl _)
    rw [List.take_of_length_le (by rw [List.length_append, List.length_take]; omega)] at hM'
    refine ⟨.slice (some ⟨g, 0, none⟩) (k + l2.length) c, w', ?_, h w' hM'⟩
    have hfc := firstCells_src (P := P) (sc := sc) (hsrc w hM)
    have hst : (storeCells ((⟨g, 0, none⟩ : Addr).add (k * size)) (l2.flatMap f) 0).run P w = .ok () w' := by
      rw [Addr.add_lit, Nat.zero_add]; exact hr
    subst h3
    simp only [execOp, resolve, invoke, builtin, Sem.run_bind, Sem.run_pure, Result.andThen_ok, List.map_toArray, List.map_cons, List.map_nil, hx, hy]
    simp [Builtin.append_, run_underlying ht, sizeOf, typeInfo, h1, Builtin.lenOf, hmc, hfc, hst]) rfl rfl hlt
theorem gop_clear1 (i : Nat) {z : Value} {c2 : Nat} {a0 : α} (ht : P.underlying tx = some (.slice e)) (hz : ∀ w, (zeroValue e).run P w = .ok z w) (hzf : (Builtin.zeroCells z.cells 1).toList = f a0)
    (hx : ev ρ x = .slice (some ⟨g, l.length * size, none⟩) 1 c2) (hf : Wide f size) (hi : T[i]? = some (rowl f w0.heap.size e size (.slice (some ⟨g, 0, none⟩) nn c) l)) (hn : nn = l.length) (hmc : l.length + 1 ≤ c)
    (h : gops P n w0 full rest N ρ T) :
    gops P n w0 full (⟨none, .call { callee := .builtin .clear, args := #[x], argTypes := #[tx] }, ty, pos, af, none⟩ :: rest) N ρ T :=
  by
    intro w hM a ha
    subst hn
    obtain ⟨w', hr, hM'⟩ := mem_put (P := P) i (l2 := [a0]) (n' := l.length) hf hM hi (Nat.le_refl _) hmc (by simp)
    have e1 : (l.take l.length ++ [a0]).take l.length = l := by simp
    rw [e1] at hM'
    have e2 : T.set i (rowl f w0.heap.size e size (.slice (some ⟨g, 0, none⟩) l.length c) l) = T := by
      obtain ⟨h8, h9⟩ := List.getElem?_eq_some_iff.1 hi
      rw [← h9]; exact List.set_getElem_self h8
    rw [e2] at hM'
    rw [List.flatMap_cons, List.flatMap_nil, List.append_nil] at hr
    have hrun : (execOp (ev ρ) ⟨none, .call { callee := .builtin .clear, args := #[x], argTypes := #[tx] }, ty, pos, af, none⟩).run P w = .ok (.value (.tuple #[])) w' := by
      simp [execOp, resolve, invoke, builtin, hx, Builtin.clear_, run_underlying ht, hz, hzf, hr]
    refine Zv rfl (by rw [ha.eval]; exact hrun) (by simp) fun K hK => ?_
    exact hK _ _ (h w' hM' a ha)
theorem gop_putset (i : Nat) {ad : Addr} {a a' : α} {dl dc sl sc : Nat} (ht : P.underlying tx = some (.slice e)) (hs : ∀ w, (sizeOf e).run P w = .ok size w)
    (hx : ev ρ x = .slice (some ⟨g, k * size, none⟩) dl dc) (hy : ev ρ y = .slice (some ad) sl sc) (hm : Nat.min sl dl = 1) (hsrc : ∀ w, Mem w0 T w → ∀ j u, (f a')[j]? = some u → w.cell? (ad.add j) = some u)
    (hf : Wide f size) (hi : T[i]? = some (rowl f w0.heap.size e size (.slice (some ⟨g, 0, none⟩) nn c) l)) (hn : nn = l.length) (hk : l[k]? = some a) (hlt : Nat.blt d n.n = true)
    (h : gops P n w0 full rest N (upd ρ d (.int .i64 1)) (T.set i (rowl f w0.heap.size e size (.slice (some ⟨g, 0, none⟩) nn c) (l.set k a')))) :
    gops P n w0 full (⟨some d, .call { callee := .builtin .copy, args := #[x, y], argTypes := #[tx, ts] }, ty, pos, af, none⟩ :: rest) N ρ T := by
  have hfl : ∀ x, (f x).length = size := fun x => (hf x).1
  have hkl : k < l.length := by
    rcases Nat.lt_or_ge k l.length with h | h
    · exact h
    · rw [List.getElem?_eq_none h] at hk; cases hk
  have hsz : k * size + size ≤ l.length * size := by
    have : (k + 1) * size ≤ l.length * size := Nat.mul_le_mul_right _ hkl
    rw [Nat.add_mul] at this; omega
  have he : setCells (f a) 0 (f a') = f a' := by
    have h9 := Yt (f a') [] (f a) (by rw [hfl, hfl])
    simpa using h9
  refine Zl (fun w hM => ?_) rfl rfl hlt
  subst hn
  have hown := hM.own i hi
  obtain ⟨w', hr, ho, hc⟩ := Yw (P := P) (off := k * size) (f a') 0 _ w hown (fun u hu => (hf a').2 u hu) (by rw [hfl]; omega)
  have hM' : Mem w0 (T.set i (rowl f w0.heap.size e size (.slice (some ⟨g, 0, none⟩) l.length c) (l.set k a'))) w' := by
    refine hM.upd hi ⟨hc.os, hc.tape, hc.output, hc.size, fun j hj hn => hc.block j hj (fun e => hn (by rw [e]; rfl))⟩ ?_ ?_
    · show w'.ownsRow _ _ _ _ (l.set k a').length ((l.set k a').flatMap f)
      have h8 := flat_put hfl hk (us := f a') (i := 0) (by rw [hfl]; omega) he
      rw [List.length_set, ← h8]
      exact ho
    · intro b hb
      have hb' : some g = some b := hb
      injection hb' with hb'
      subst hb'
      exact ⟨.inl rfl, Nat.lt_of_lt_of_le (hM.lt _ (List.mem_of_getElem? hi) g rfl) hc.size⟩
  refine ⟨.int .i64 1, w', ?_, h w' hM'⟩
  have hfc : (Builtin.firstCells size 1 (.slice (some ad) sl sc)).run P w = .ok (f a').toArray w := by
    have hld := run_loadCells_list (P := P) w ad (f a') (hsrc w hM)
    rw [hfl] at hld
    simpa [Builtin.firstCells] using hld
  simp [execOp, resolve, invoke, builtin, hx, hy, Builtin.copy_, run_underlying ht, hs, Builtin.lenOf, hm, hfc, hr, goInt]
theorem gop_zeros (i : Nat) {m : Nat} (ht : P.underlying tx = some (.slice e)) (htn : P.underlying ts = some (.int .i64)) (he : Elem P e size bytes) (hf : Wide f size)
    (hx : ev ρ x = .slice (some ⟨g, 0, none⟩) k c) (hy : ev ρ y = .int .i64 (m : Int)) (hi : T[i]? = some (rowl f w0.heap.size e size (.slice (some ⟨g, 0, none⟩) nn c) l)) (hk : k ≤ l.length) (h0 : 0 < m) (hg : c < k + m) (h63 : k + m ≤ 1000) (hb : bytes ≤ 1000) (hlt : Nat.blt d n.n = true)
    (h : ∀ b c', k + m ≤ c' → gops P n w0 full rest N (upd ρ d (.slice (some ⟨b, 0, none⟩) (k + m) c')) (T ++ [rowl f w0.heap.size e size (.slice (some ⟨b, 0, none⟩) k c') (l.take k)])) :
    gops P n w0 full (⟨some d, .call { callee := .builtin .append, args := #[x, y], argTypes := #[tx, ts] }, ty, pos, af, none⟩ :: rest) N ρ T :=
  Zl (fun w hM => by
    have hfl : ∀ x, (f x).length = size := fun x => (hf x).1
    obtain ⟨ii, z, h1, h2, h3, h4, h5, h6⟩ := he
    have hkl : (l.take k).length = k := by rw [List.length_take]; omega
    have hown : w.ownsRow w0.heap.size e size (.slice (some ⟨g, 0, none⟩) nn c) l.length (l.flatMap f) := hM.ok _ (List.mem_of_getElem? hi)
    have hcell : ∀ j u, ((l.take k).flatMap f)[j]? = some u → w.drew.cell? ((⟨g, 0, none⟩ : Addr).add j) = some u := by
      intro j u hu
      rw [← flat_tk hfl, List.getElem?_take] at hu
      split at hu
      · have h9 := hown.cells (g := g) rfl j u hu
        exact h9
      · cases hu
    have hold : (Builtin.firstCells ii.size k (.slice (some ⟨g, 0, none⟩) k c)).run P w.drew = .ok ((l.take k).flatMap f).toArray w.drew := by
      have hld := run_loadCells_list (P := P) w.drew (⟨g, 0, none⟩ : Addr) ((l.take k).flatMap f) hcell
      rw [Qb hfl, hkl, ← h3] at hld
      simpa [Builtin.firstCells] using hld
    have hbb : (k + m) * bytes ≤ 1000 * 1000 := Nat.mul_le_mul h63 hb
    have hmb : m * bytes ≤ (k + m) * bytes := Nat.mul_le_mul_right _ (by omega)
    have hrun := Lib.run_append_grow_zeros (P := P) w tx ts ty e ii z .i64 .i64 ht htn h1 h2 (some ⟨g, 0, none⟩) k c ((l.take k).flatMap f) hold m h0 (by omega) hg (by omega) (by rw [h4]; omega) (by rw [h4]; exact growslice_fits hg (by omega))
    have hcm : grownCap w (k + m) c e ≤ maxLen := grownCap_le_maxLen w _ _ _ (by unfold maxLen; omega)
    have hcg : k + m ≤ grownCap w (k + m) c e := grownCap_ge w _ _ _
    refine ⟨.slice (some ⟨w.heap.size, 0, none⟩) (k + m) (grownCap w (k + m) c e), w.drew.alloc (.cells (((l.take k).flatMap f).toArray ++ Builtin.zeroCells z.cells m ++ Builtin.zeroCells z.cells (grownCap w (k + m) c e - (k + m))) e), ?_, h w.heap.size (grownCap w (k + m) c e) hcg _ ?_⟩
    · simp only [execOp, resolve, invoke, builtin, Sem.run_bind, Sem.run_pure, Result.andThen_ok, List.map_toArray, List.map_cons, List.map_nil, hx, hy, hrun]
    · have hbl : Below w.heap.size w (w.drew.alloc (.cells (((l.take k).flatMap f).toArray ++ Builtin.zeroCells z.cells m ++ Builtin.zeroCells z.cells (grownCap w (k + m) c e - (k + m))) e)) := ((Below.refl _ _).drew).alloc (Nat.le_refl _) _
      refine hM.add hbl ⟨Qb hfl _, .inr ⟨w.heap.size, _, _, by rw [hkl], hM.low.size, heap_alloc_new w.drew _, by omega, hcm, ?_, ?_⟩⟩ (fun b h9 => ?_)
      · simp only [Array.size_append, List.size_toArray, size_zeroCells, Qb hfl, hkl, h5]
        rw [← Nat.add_mul, ← Nat.add_mul]
        congr 1
        omega
      · rw [hkl, Array.append_assoc, Array.toList_append, List.take_append_of_le_length (by simp [Qb hfl, hkl]), List.take_of_length_le (by simp [Qb hfl, hkl])]
      · have hb' : some w.heap.size = some b := h9
        injection hb' with hb'
        subst hb'
        simp [World.alloc, World.drew, -World.alloc_eq, -World.drew_eq]) rfl rfl hlt
end
section
variable {P : Program} {w0 : World} {T : List Reg} {ρ : Env} {dst : Option Tmp} {ty t : TypeId} {pos : String} {af : Array Edge} {gd : Option (Nat × Bool)} {x y : Operand} {e : TypeId}
theorem Mem.apart {w : World} (hM : Mem w0 T w) {i j : Nat} {r s : Reg} (hi : T[i]? = some r) (hj : T[j]? = some s) (hij : i ≠ j) {b : Nat} (h1 : r.has b) (h2 : s.has b) : False := by
  obtain ⟨hi1, rfl⟩ := List.getElem?_eq_some_iff.1 hi
  obtain ⟨hj1, rfl⟩ := List.getElem?_eq_some_iff.1 hj
  have hp := List.pairwise_iff_getElem.1 hM.disj
  rcases Nat.lt_or_gt_of_ne hij with h | h
  · exact hp i j hi1 hj1 h b h1 h2
  · exact hp j i hj1 hi1 h b h2 h1
theorem y_overlaps {α : Type} {f : α → List Value} {l : List α} {size nn c off la ca lb cb g b i j : Nat} {fn : Func} {F : FuncId} {et e2 : TypeId} {cs : Array Value} {ts tR : TypeId} (hfF : P.funcs[F]? = some fn) (hnm : (fn.name == "runtime.NumGoroutine") = false)
    (hb : fn.body.isNone = true) (hn : Extern.findNext fn = none) (hE : Extern.find fn = some (Extern.SlicesOverlaps.overlaps #[ts, ts] #[tR])) (ht : P.underlying ts = some (.slice e)) (hz : ∀ w, (sizeOf e).run P w = .ok size w)
    {args : Array Operand} (ha : args.toList.map (ev ρ) = [.slice (some ⟨b, 0, none⟩) la ca, .slice (some ⟨g, off, none⟩) lb cb]) (hi : T[i]? = some (rowl f w0.heap.size et size (.slice (some ⟨g, 0, none⟩) nn c) l)) (hj : T[j]? = some (box b (.cells cs e2))) (hij : j ≠ i) (hc : 0 < c) (hsz : 0 < size) {ats : Array TypeId} :
    Yield P w0 T ρ ⟨dst, .call { callee := .value (.func F), args := args, argTypes := ats }, ty, pos, af, gd⟩ (.bool false) := fun w hM => by
  have hbk : w.heap[b]? = some (.cells cs e2 (0, 0)) := hM.ok _ (List.mem_of_getElem? hj)
  obtain ⟨cur, hs, -, -, -, -, hMb⟩ := row_to_box i hM hi
  have hgk : w.heap[g]? = some (.cells cur et (0, 0)) := hMb.ok _ (List.mem_of_getElem? (set_same hi))
  have hne : b ≠ g := fun h9 => hM.apart hj hi hij (b := b) rfl (show some g = some b by rw [h9])
  have h0 := Lib.run_overlaps_apart (P := P) w ts tR e ht size hz ⟨b, 0, none⟩ ⟨g, off, none⟩ la ca lb cb hne e2 et cs.size cur.size (by simp [World.shape?, hbk]) (by simp [World.shape?, hgk]) (by rw [hs]; exact Nat.ne_of_gt (Nat.mul_pos hc hsz)) (by simp [World.frozen?, hbk]) (by simp [World.frozen?, hbk])
  have h := run_callFunc_extern (P := P) hfF hnm hb hn hE #[.slice (some ⟨b, 0, none⟩) la ca, .slice (some ⟨g, off, none⟩) lb cb] w
  rw [h0] at h
  have e1 : args.map (ev ρ) = #[.slice (some ⟨b, 0, none⟩) la ca, .slice (some ⟨g, off, none⟩) lb cb] := by
    rw [← Array.toArray_toList (xs := args.map (ev ρ)), Array.toList_map, ha]
  simp [execOp, resolve, Deferred.ofValue, ev, invoke, e1, h, Result.andThen]
end
theorem flat_dp {α : Type} {f : α → List Value} {size : Nat} (hf : ∀ x, (f x).length = size) (l : List α) (k : Nat) (hk : k ≤ l.length) : (l.drop k).flatMap f = (l.flatMap f).drop (k * size) := by
  have h1 : l.flatMap f = (l.take k).flatMap f ++ (l.drop k).flatMap f := by rw [← List.flatMap_append, List.take_append_drop]
  rw [h1, List.drop_left' (by rw [Qb hf, List.length_take, Nat.min_eq_left hk])]
section
variable {w0 w : World} {T : List Reg} {α : Type} {f : α → List Value} {l : List α} {size base nn c g k : Nat} {e : TypeId}
theorem src_drop (i : Nat) (hf : ∀ x, (f x).length = size) (hM : Mem w0 T w) (hi : T[i]? = some (rowl f base e size (.slice (some ⟨g, 0, none⟩) nn c) l)) (hk : k ≤ l.length) :
    ∀ j u, ((l.drop k).flatMap f)[j]? = some u → w.cell? ((⟨g, k * size, none⟩ : Addr).add j) = some u := fun j u hu => by
  rw [flat_dp hf l k hk, List.getElem?_drop] at hu
  have h := hM.own i hi
  have h9 := h.cells (g := g) rfl _ u hu
  rw [Addr.add_lit] at h9 ⊢
  rw [Nat.zero_add] at h9
  exact h9
theorem src_tail (i : Nat) (hf : ∀ x, (f x).length = size) (hM : Mem w0 T w) (hi : T[i]? = some (rowl f base e size (.slice (some ⟨g, 0, none⟩) nn c) l)) (hk : k ≤ l.length) (hc : l.length ≤ c) :
    Src w size (some (if c = k then ⟨g, 0, none⟩ else ⟨g, k * size, none⟩)) (l.drop k).length ((l.drop k).flatMap f) :=
  ⟨Qb hf _, fun h0 => ⟨_, rfl, fun j u hu => by
    rw [List.length_drop] at h0
    rw [if_neg (by omega)]
    exact src_drop i hf hM hi hk j u hu⟩⟩
theorem ins_end {x : α} (h : k = l.length) : l ++ [x] = l.take k ++ x :: l.drop k := by
  subst h; simp
theorem ins_grow {x : α} (h : k < l.length) : ((((l.take k).take k ++ [x]).take (k + 1)).take (k + 1) ++ l.drop k).take (l.length + 1) = l.take k ++ x :: l.drop k := by
  have h1 : ((l.take k).take k ++ [x]).take (k + 1) = l.take k ++ [x] := by
    rw [List.take_take, Nat.min_self]
    exact List.take_of_length_le (by simp; omega)
  rw [h1, List.take_of_length_le (l := l.take k ++ [x]) (by simp; omega), List.take_of_length_le (by simp; omega)]
  simp
theorem ins_shift {x : α} (h : k < l.length) : ((l.take (k + 1) ++ l.drop k).take (l.length + 1)).set k x = l.take k ++ x :: l.drop k := by
  rw [List.take_of_length_le (by simp; omega)]
  rw [List.take_succ_eq_append_getElem h, List.append_assoc, List.set_append_right _ _ (by simp; omega)]
  simp [Nat.min_eq_left (Nat.le_of_lt h)]
theorem shift_at (h : k < l.length) : ((l.take (k + 1) ++ l.drop k).take (l.length + 1))[k]? = some l[k] := by
  rw [List.take_of_length_le (by simp; omega), List.take_succ_eq_append_getElem h, List.append_assoc, List.getElem?_append_right (by simp; omega)]
  simp [Nat.min_eq_left (Nat.le_of_lt h)]
end
end Go.Cf
namespace Go.Proofs.YtbkameioedmlkaaGreatDoor
open Go.RowKit Go.Cf
set_option maxRecDepth 10000
set_option maxHeartbeats 8000000 in
theorem insertF_any (w0 w : World) (A : Option Addr) (c k : Nat) (fs : List FileC) (bl : Nat) (x : FileC) (fr : Reg) (hM0 : Mem w0 [rowl fileCells w0.heap.size 85 2 (.slice A fs.length c) (fs), box bl (.cells #[.string x.pl.path, .slice x.A x.pl.lines.length x.c] 85), fr] w) (hk : k ≤ fs.length) (h24 : fs.length ≤ 100) : Calls Tryz.prog 113 #[.slice A fs.length c, .int .i64 (k : Int), .slice (some ⟨bl, 0, none⟩) 1 1] w fun e w' => ∃ v r' G, e = .returned v ∧ (r' = rowl fileCells w0.heap.size 85 2 (v) (fs.take k ++ x :: fs.drop k) ∧ G = []) ∧ Mem w0 (r' :: box bl (.cells #[.string x.pl.path, .slice x.A x.pl.lines.length x.c] 85) :: fr :: G) w' := by
 refine gcallsT Tryz.func113 U Tryz.ntmps113 (leb U) hM0 ?_
 refine Jb [(0,.slice A _ c),(1,.int _ _),(2,.slice (some ⟨bl,0,none⟩) _ _)] ⟨U,U,U,O⟩ fun σ => Jg fun N1 hN1 => Jk (Jd (Kq U) U U U (Ja (hN1 _ _ (Jb [(0,.slice A _ c),(1,.int _ _),(2,.slice (some ⟨bl,0,none⟩) _ _)] ⟨U,U,U,O⟩ fun σ => Jg fun N2 hN2 => Jk (Jd (Ju (v := .slice A _ c) U) U U U (Jd (Jf U) U U U (Jd (QM Tryz.underlying59 Tryz.sizeOf85 U U (by omega) (by omega)) U U U (Ja ?_))))))))
 refine hN2 _ _ (Jb [(0,.slice A _ c),(1,.int _ _),(2,.slice (some ⟨bl,0,none⟩) _ _)] ⟨U,U,U,O⟩ fun σ => Jg fun N3 hN3 => Jk (Jd (Ju (v := .slice (some ⟨bl,0,none⟩) _ _) U) U U U (Jd (Ks Tryz.underlying59 U) U U U (Jd (Jh U) U U U (Ja (hN3 _ _ (Jb [(0,.slice A _ c),(1,.int _ _),(2,.slice (some ⟨bl,0,none⟩) _ _),(7,.int _ _)] ⟨U,U,U,U,O⟩ fun σ => Jg fun N4 hN4 => Jg fun N5 hN5 => Jk (Jd (Jf U) U U U ?_))))))))
 refine Jd (Mc U U) U U U (Ja (hN5 _ _ (Jb [(0,.slice A _ c),(1,.int _ _),(2,.slice (some ⟨bl,0,none⟩) _ _),(7,.int _ _),(16,.bool _)] ⟨U,U,U,U,U,O⟩ fun σ => ?_)))
 refine Jt (b := _) U (fun hc16 => ?_) (fun hc16 => ?_)
 exfalso; have h9 := odt hc16; omega
 replace hc16 := odf hc16
 refine Jw (hN4 _ _ (Jb [(0,.slice A _ c),(1,.int _ _),(2,.slice (some ⟨bl,0,none⟩) _ _),(7,.int _ _)] ⟨U,U,U,U,O⟩ fun σ => Jg fun N6 hN6 => Jk (Jd (Ju (v := .slice A _ c) U) U U U (Jd (Ks Tryz.underlying59 U) U U U (Jd (Jh U) U U U (Ja (hN6 _ _ (Jb [(0,.slice A _ c),(1,.int _ _),(2,.slice (some ⟨bl,0,none⟩) _ _),(7,.int _ _),(8,.int _ _)] ⟨U,U,U,U,U,O⟩ fun σ => ?_))))))))
 refine Jg fun N7 hN7 => Jg fun N8 hN8 => Jk (Jd (Jf U) U U U (Jd (Jf U) U U U (Jd (Mc U U) U U U (Ja (hN8 _ _ (Jb [(0,.slice A _ c),(1,.int _ _),(2,.slice (some ⟨bl,0,none⟩) _ _),(7,.int _ _),(8,.int _ _),(22,.bool _)] ⟨U,U,U,U,U,U,O⟩ fun σ => ?_))))))
 refine Jt (b := _) U (fun hc22 => ?_) (fun hc22 => ?_)
 replace hc22 := odt hc22
 have hke : k = fs.length := by omega
 refine Jg fun N9 hN9 => Jk (Jd (Ju (v := .slice A _ c) U) U U U (Jd (Ju (v := .slice (some ⟨bl,0,none⟩) _ _) U) U U U ?_))
 refine Qj 0 (f := fileCells) (l2 := [x]) Tryz.underlying59 el85 Uq (v := .slice A _ c) U U U U (fun h => by cases h) (by simp [maxLen]; omega) (by simp; omega) (Wp 1 U U) U (fun v25 => ?_)
 refine Ky (fun w hM => Ug (hM.own 0 U)) ?_
 rintro ⟨A25,c25,rfl,hc25,hm25⟩
 refine Jd (Kx (v := .slice A25 _ c25) U) U U U (Ja (hN9 _ _ (gT [rowl _ _ _ _ _ _,box bl _,fr] U (Jb [(6,.slice A25 _ c25)] ⟨U,O⟩ fun σ => ?_))))
 refine Ke fun w1 hM => ?_
 refine ⟨_,res1 rfl (rt (v := .slice A25 _ c25) rfl),?_⟩
 rw [ins_end (x := x) hke] at hM
 exact ⟨_,_,[],by rw [ins_end (x := x) hke],⟨rfl,rfl⟩,hM⟩
 replace hc22 := odf hc22
 have hkl : k < fs.length := by omega
 refine Un (fun w hM => Xn (hM.ok _ (List.mem_of_getElem? (i := 0) U)) (by omega)) ?_
 rintro ⟨g,rfl⟩
 refine Un (fun w hM => Mz (hM.ok _ (List.mem_of_getElem? (i := 0) U))) ?_
 rintro ⟨A9,c9,hv9,hcc,hcm,-⟩
 simp only [Value.slice.injEq] at hv9
 obtain ⟨-,-,rfl⟩ := hv9
 refine Jw (hN7 _ _ (Jb [(0,.slice (some ⟨g,0,none⟩) _ c),(1,.int _ _),(2,.slice (some ⟨bl,0,none⟩) _ _),(7,.int _ _),(8,.int _ _)] ⟨U,U,U,U,U,O⟩ fun σ => Jg fun N10 hN10 => Jg fun N11 hN11 => Jk (Jd (Jf U) U U U (Jd (Jf U) U U U (Jd (Kr U U ⟨by omega,by omega⟩) U U U (Jd (Ju (v := .slice (some ⟨g,0,none⟩) _ c) U) U U U (Jd (y_cap Tryz.underlying59 U) U U U (Jd (Mh U U) U U U ?_))))))))
 refine Ja (hN11 _ _ (Jb [(0,.slice (some ⟨g,0,none⟩) _ c),(1,.int _ _),(2,.slice (some ⟨bl,0,none⟩) _ _),(7,.int _ _),(8,.int _ _),(31,.bool _)] ⟨U,U,U,U,U,U,O⟩ fun σ => ?_))
 refine Jt (b := _) U (fun hc31 => ?_) (fun hc31 => ?_)
 replace hc31 := odt hc31
 refine Jg fun N12 hN12 => Jk (Jd (Ju (v := .slice (some ⟨g,0,none⟩) _ c) U) U U U (Jd (Jf U) U U U (Jd (Zm (m := k) Tryz.underlying59 Tryz.sizeOf85 U U (by omega) (by omega) (by omega)) U U U (Jd (Jf U) U U U (Jd (Jf U) U U U (Jd (Kr U U ⟨by omega,by omega⟩) U U U (Jd (Jf U) U U U (Jd (Zi U U ⟨by omega,by omega⟩) U U U ?_))))))))
 refine gop_zeros 0 (f := fileCells) (k := k) (m := fs.length + 1 - k) (l := fs) (c := c) Tryz.underlying59 Tryz.underlying3 elFile Uq U (congrArg (Value.int .i64) (by omega)) U (by omega) (by omega) (by omega) (by omega) (by decide) U (fun b40 c40 hc40 => ?_)
 rw [show k + (fs.length + 1 - k) = fs.length + 1 by omega] at hc40 ⊢
 refine Jd (Kx (v := .slice (some ⟨b40,0,none⟩) _ c40) U) U U U (Ja (hN12 _ _ (gT [rowl _ _ _ _ _ _,box bl _,fr,rowl _ _ _ _ _ _] U (Jb [(0,.slice (some ⟨g,0,none⟩) _ c),(1,.int _ _),(2,.slice (some ⟨bl,0,none⟩) _ _),(7,.int _ _),(9,.slice (some ⟨b40,0,none⟩) _ c40)] ⟨U,U,U,U,U,O⟩ fun σ => Jg fun N13 hN13 => Jk (Jd (Ju (v := .slice (some ⟨b40,0,none⟩) _ c40) U) U U U (Jd (Jf U) U U U (Jd (Yn (s := 2) (k := k) Tryz.underlying59 Tryz.sizeOf85 U U U (by omega) (by omega)) U U U (Jd (Ju (v := .slice (some ⟨bl,0,none⟩) _ _) U) U U U ?_))))))))
 refine Zx 3 (f := fileCells) (l := fs.take k) (l2 := [x]) (k := k) (n' := k + 1) (c := c40) Tryz.underlying59 Tryz.sizeOf85 U U (by show min _ _ = 1; omega) (fun w hM j u hu => Kf 1 (cs := fileCells x) U j u hu w hM) Uq U (by simp; omega) (by simp; omega) (by simp) U ?_
 refine Ja (hN13 _ _ (gT [rowl _ _ _ _ _ _,box bl _,fr,rowl _ _ _ _ _ _] U (Jb [(0,.slice (some ⟨g,0,none⟩) _ c),(1,.int _ _),(7,.int _ _),(9,.slice (some ⟨b40,0,none⟩) _ c40)] ⟨U,U,U,U,O⟩ fun σ => Jg fun N14 hN14 => ?_)))
 refine Xv [8] (by kernel_rfl) ?_
 refine Jv 0 (TK := [rowl _ _ _ _ _ _,box bl _,fr,rowl _ _ _ _ _ _]) U (by kernel_rfl) (by kernel_rfl) (by kernel_rfl) #[false,true,true,true,false,true,true,true,false] (by kernel_rfl) U (Ju (v := .slice (some ⟨b40,0,none⟩) _ c40) U) U U U (Kc) (listed' := #[true,false,false,false,false,false,false,false,false]) U ?_
 refine Jv 1 (TK := [rowl _ _ _ _ _ _,box bl _,fr,rowl _ _ _ _ _ _]) U (by kernel_rfl) (by kernel_rfl) (by kernel_rfl) #[true,false,true,false,false,true,true,true,false] (by kernel_rfl) U (Jf U) U U U (Kc) (listed' := #[true,true,false,false,false,false,false,false,false]) U ?_
 refine Jv 2 (TK := [rowl _ _ _ _ _ _,box bl _,fr,rowl _ _ _ _ _ _]) U (by kernel_rfl) (by kernel_rfl) (by kernel_rfl) #[true,true,false,false,false,true,true,true,false] (by kernel_rfl) U (Jf U) U U U (Kc) (listed' := #[true,true,true,false,false,false,false,false,false]) U ?_
 refine Jv 3 (TK := [rowl _ _ _ _ _ _,box bl _,fr,rowl _ _ _ _ _ _]) U (by kernel_rfl) (by kernel_rfl) (by kernel_rfl) #[true,true,true,false,false,true,true,true,false] (by kernel_rfl) U (Kr U U ⟨by omega,by omega⟩) U U U (Kc) (listed' := #[true,true,true,true,false,false,false,false,false]) U ?_
 refine Jv 4 (TK := [rowl _ _ _ _ _ _,box bl _,fr,rowl _ _ _ _ _ _]) U (by kernel_rfl) (by kernel_rfl) (by kernel_rfl) #[true,true,true,true,false,true,true,true,false] (by kernel_rfl) U (Yn (s := 2) (k := k + 1) Tryz.underlying59 Tryz.sizeOf85 U U (by omega) (by omega) (by omega)) U U U (Kc) (listed' := #[true,true,true,true,true,false,false,false,false]) U ?_
 refine Jv 5 (TK := [rowl _ _ _ _ _ _,box bl _,fr,rowl _ _ _ _ _ _]) U (by kernel_rfl) (by kernel_rfl) (by kernel_rfl) #[true,true,true,true,true,false,true,false,false] (by kernel_rfl) U (Ju (v := .slice (some ⟨g,0,none⟩) _ c) U) U U U (Kc) (listed' := #[true,true,true,true,true,true,false,false,false]) U ?_
 refine Jv 6 (TK := [rowl _ _ _ _ _ _,box bl _,fr,rowl _ _ _ _ _ _]) U (by kernel_rfl) (by kernel_rfl) (by kernel_rfl) #[true,true,true,true,true,true,false,false,false] (by kernel_rfl) U (Jf U) U U U (Kc) (listed' := #[true,true,true,true,true,true,true,false,false]) U ?_
 refine Jv 7 (TK := [rowl _ _ _ _ _ _,box bl _,fr,rowl _ _ _ _ _ _]) U (by kernel_rfl) (by kernel_rfl) (by kernel_rfl) #[true,true,true,true,true,true,true,false,false] (by kernel_rfl) U (Yn (s := 2) (k := k) Tryz.underlying59 Tryz.sizeOf85 U U U (by omega) (by omega)) U U U (Kc) (listed' := #[true,true,true,true,true,true,true,true,false]) U ?_
 refine Mr 8 (k' := 1) (listed' := #[true,true,true,true,true,true,true,true,true]) (by kernel_rfl) U U U ?_
 refine Zx 3 (f := fileCells) (l := ((fs.take k).take k ++ [x]).take (k + 1)) (l2 := fs.drop k) (k := k + 1) (n' := fs.length + 1) (c := c40) Tryz.underlying59 Tryz.sizeOf85 U U (by rw [List.length_drop]; show min _ _ = _; omega) (fun w hM => src_drop 0 (fun _ => U) hM U (Nat.le_of_lt hkl)) Uq U (by simp; omega) (by simp; omega) (by simp; omega) U ?_
 refine Ja ?_
 refine Mo (TK := []) U (Qn) ?_
 refine Qd (by kernel_rfl) ?_
 refine hN14 _ _ (gT [rowl _ _ _ _ _ _,box bl _,fr,rowl _ _ _ _ _ _] U (Jb [(9,.slice (some ⟨b40,0,none⟩) _ c40)] ⟨U,O⟩ fun σ => Jg fun N15 hN15 => Jk (Jd (Ju (v := .slice (some ⟨b40,0,none⟩) _ c40) U) U U U (Jd (Kx (v := .slice (some ⟨b40,0,none⟩) _ c40) U) U U U (Ja (hN15 _ _ (Jb [(6,.slice (some ⟨b40,0,none⟩) _ c40)] ⟨U,O⟩ fun σ => ?_)))))))
 refine Ke fun w1 hM => ?_
 refine ⟨_,res1 rfl (rt (v := .slice (some ⟨b40,0,none⟩) _ c40) rfl),?_⟩
 rw [ins_grow hkl] at hM
 exact ⟨_,_,[],rfl,⟨rfl,rfl⟩,(hM.sub (.cons _ (.cons_cons _ (.cons_cons _ (.cons_cons _ .slnil))))).perm (List.perm_append_comm (l₁ := [_,_]) (l₂ := [_]))⟩
 replace hc31 := odf hc31
 refine Jw (hN10 _ _ (Jb [(0,.slice (some ⟨g,0,none⟩) _ c),(1,.int _ _),(2,.slice (some ⟨bl,0,none⟩) _ _),(7,.int _ _),(8,.int _ _)] ⟨U,U,U,U,U,O⟩ fun σ => Jg fun N16 hN16 => Jk (Jd (Ju (v := .slice (some ⟨g,0,none⟩) _ c) U) U U U (Jd (Jf U) U U U (Jd (Jf U) U U U (Jd (Kr U U ⟨by omega,by omega⟩) U U U (Jd (Zm (m := fs.length + 1) Tryz.underlying59 Tryz.sizeOf85 U U (by omega) (by omega) (by omega)) U U U (Jd (Kq U) U U U ?_))))))))
 refine Ja (hN16 _ _ (Jb [(0,.slice _ _ _),(1,.int _ _),(2,.slice (some ⟨bl,0,none⟩) _ _),(7,.int _ _),(8,.int _ _)] ⟨U,U,U,U,U,O⟩ fun σ => Jg fun N17 hN17 => Jg fun N18 hN18 => Jk (Jd (Ju (v := .slice (some ⟨bl,0,none⟩) _ _) U) U U U (Jd (Kl U) U U U (Jd (Jf U) U U U (Jd (Jf U) U U U (Jd (Kr U U ⟨by omega,by omega⟩) U U U (Jd (Yn (s := 2) (k := k + 1) Tryz.underlying59 Tryz.sizeOf85 U U (by omega) (by omega) (by omega)) U U U ?_))))))))
 refine Jd (y_overlaps (tR := 4) (f := fileCells) (l := fs) (i := 0) (j := 1) Tryz.func140 (by kernel_rfl) (by kernel_rfl) (by kernel_rfl) (by kernel_rfl) Tryz.underlying59 Tryz.sizeOf85 U U U (by decide) (by omega) (by decide)) U U U (Jd (Mp U) U U U (Ja (hN18 _ _ (Jb [(0,.slice _ _ _),(1,.int _ _),(2,.slice (some ⟨bl,0,none⟩) _ _),(7,.int _ _),(8,.int _ _),(68,.bool _)] ⟨U,U,U,U,U,U,O⟩ fun σ => ?_))))
 refine Jt (b := _) U (fun hc68 => ?_) (fun hc68 => ?_)
 replace hc68 := Ub hc68
 refine Jg fun N19 hN19 => ?_
 refine Xv [8] (by kernel_rfl) ?_
 refine Jv 0 (TK := [rowl _ _ _ _ _ _,box bl _,fr]) U (by kernel_rfl) (by kernel_rfl) (by kernel_rfl) #[false,true,true,true,false,true,true,true,false] (by kernel_rfl) U (Kl U) U U U (Kc) (listed' := #[true,false,false,false,false,false,false,false,false]) U ?_
 refine Jv 1 (TK := [rowl _ _ _ _ _ _,box bl _,fr]) U (by kernel_rfl) (by kernel_rfl) (by kernel_rfl) #[true,false,true,false,false,true,true,true,false] (by kernel_rfl) U (Jf U) U U U (Kc) (listed' := #[true,true,false,false,false,false,false,false,false]) U ?_
 refine Jv 2 (TK := [rowl _ _ _ _ _ _,box bl _,fr]) U (by kernel_rfl) (by kernel_rfl) (by kernel_rfl) #[true,true,false,false,false,true,true,true,false] (by kernel_rfl) U (Jf U) U U U (Kc) (listed' := #[true,true,true,false,false,false,false,false,false]) U ?_
 refine Jv 3 (TK := [rowl _ _ _ _ _ _,box bl _,fr]) U (by kernel_rfl) (by kernel_rfl) (by kernel_rfl) #[true,true,true,false,false,true,true,true,false] (by kernel_rfl) U (Kr U U ⟨by omega,by omega⟩) U U U (Kc) (listed' := #[true,true,true,true,false,false,false,false,false]) U ?_
 refine Jv 4 (TK := [rowl _ _ _ _ _ _,box bl _,fr]) U (by kernel_rfl) (by kernel_rfl) (by kernel_rfl) #[true,true,true,true,false,true,true,true,false] (by kernel_rfl) U (Yn (s := 2) (k := k + 1) Tryz.underlying59 Tryz.sizeOf85 U U (by omega) (by omega) (by omega)) U U U (Kc) (listed' := #[true,true,true,true,true,false,false,false,false]) U ?_
 refine Jv 5 (TK := [rowl _ _ _ _ _ _,box bl _,fr]) U (by kernel_rfl) (by kernel_rfl) (by kernel_rfl) #[true,true,true,true,true,false,true,false,false] (by kernel_rfl) U (Kl U) U U U (Kc) (listed' := #[true,true,true,true,true,true,false,false,false]) U ?_
 refine Jv 6 (TK := [rowl _ _ _ _ _ _,box bl _,fr]) U (by kernel_rfl) (by kernel_rfl) (by kernel_rfl) #[true,true,true,true,true,true,false,false,false] (by kernel_rfl) U (Jf U) U U U (Kc) (listed' := #[true,true,true,true,true,true,true,false,false]) U ?_
 refine Jv 7 (TK := [rowl _ _ _ _ _ _,box bl _,fr]) U (by kernel_rfl) (by kernel_rfl) (by kernel_rfl) #[true,true,true,true,true,true,true,false,false] (by kernel_rfl) U (Yn (s := 2) (k := k) Tryz.underlying59 Tryz.sizeOf85 U U U (by omega) (by omega)) U U U (Kc) (listed' := #[true,true,true,true,true,true,true,true,false]) U ?_
 refine Mr 8 (k' := 1) (listed' := #[true,true,true,true,true,true,true,true,true]) (by kernel_rfl) U U U ?_
 refine Zx 0 (f := fileCells) (l := fs) (l2 := fs.drop k) (k := k + 1) (n' := fs.length + 1) (c := c) Tryz.underlying59 Tryz.sizeOf85 U U (by rw [List.length_drop]; show min _ _ = _; omega) (fun w hM => src_drop 0 (fun _ => U) hM U (Nat.le_of_lt hkl)) Uq U (by omega) (by simp; omega) (by simp; omega) U ?_
 refine Ja ?_
 refine Mo (TK := []) U (Qn) ?_
 refine Qd (by kernel_rfl) ?_
 refine hN19 _ _ (gT [rowl _ _ _ _ _ _,box bl _,fr] U (Jb [(0,.slice _ _ _),(1,.int _ _),(2,.slice (some ⟨bl,0,none⟩) _ _)] ⟨U,U,U,O⟩ fun σ => Jg fun N20 hN20 => Jk (Jd (Kl U) U U U (Jd (Jf U) U U U (Jd (Yn (s := 2) (k := k) Tryz.underlying59 Tryz.sizeOf85 U U U (by omega) (by omega)) U U U (Jd (Ju (v := .slice (some ⟨bl,0,none⟩) _ _) U) U U U ?_))))))
 refine gop_putset 0 (f := fileCells) (a := fs[k]) (a' := x) (l := (fs.take (k + 1) ++ fs.drop k).take (fs.length + 1)) (k := k) (c := c) Tryz.underlying59 Tryz.sizeOf85 U U (by show min _ _ = 1; omega) (fun w hM j u hu => Kf 1 (cs := fileCells x) U j u hu w hM) Uq U (by simp; omega) (shift_at hkl) U ?_
 refine Ja (hN20 _ _ (gT [rowl _ _ _ _ _ _,box bl _,fr] U (Jb [(0,.slice _ _ _)] ⟨U,O⟩ fun σ => Jg fun N21 hN21 => Jk (Jd (Kl U) U U U (Jd (Kq U) U U U (Ja (hN21 _ _ (Jb [(6,.slice _ _ _)] ⟨U,O⟩ fun σ => ?_))))))))
 refine Ke fun w1 hM => ?_
 refine ⟨_,res1 rfl (rt (v := .slice _ _ _) rfl),?_⟩
 rw [ins_shift hkl] at hM
 exact ⟨_,_,[],rfl,⟨rfl,rfl⟩,hM⟩
 exact absurd hc68 (by decide)
set_option maxHeartbeats 8000000 in
theorem deleteF_any (w0 w : World) (A : Option Addr) (c k : Nat) (fs : List FileC) (fr : Reg) (hM0 : Mem w0 [rowl fileCells w0.heap.size 85 2 (.slice A fs.length c) (fs), fr] w) (hk : k < fs.length) (h24 : fs.length ≤ 100) : Calls Tryz.prog 90 #[.slice A fs.length c, .int .i64 (k : Int), .int .i64 ((k : Int) + 1)] w fun e w' => ∃ v r' G, e = .returned v ∧ (r' = rowl fileCells w0.heap.size 85 2 (v) (fs.take k ++ fs.drop (k + 1)) ∧ G = []) ∧ Mem w0 (r' :: fr :: G) w' := by
 have hlen : (fs.take k ++ fs.drop (k + 1)).length = fs.length - 1 := by simp; omega
 refine gcallsT Tryz.func90 U Tryz.ntmps90 (leb U) hM0 ?_
 refine Jb [(0,.slice A _ c),(1,.int _ _),(2,.int _ _)] ⟨U,U,U,O⟩ fun σ => ?_
 refine Un (fun w hM => Xn (hM.ok _ (List.mem_of_getElem? (i := 0) U)) (by omega)) ?_
 rintro ⟨g,rfl⟩
 refine Un (fun w hM => Mz (hM.ok _ (List.mem_of_getElem? (i := 0) U))) ?_
 rintro ⟨A9,c9,hv9,hcc,hcm,-⟩
 simp only [Value.slice.injEq] at hv9
 obtain ⟨-,-,rfl⟩ := hv9
 refine Jg fun N1 hN1 => Jk (Jd (Kq U) U U U (Ja (hN1 _ _ (Jb [(0,.slice (some ⟨g,0,none⟩) _ c),(1,.int _ _),(2,.int _ _)] ⟨U,U,U,O⟩ fun σ => Jg fun N2 hN2 => Jk (Jd (Ju (v := .slice (some ⟨g,0,none⟩) _ c) U) U U U (Jd (Jf U) U U U (Jd (Jf U) U U U (Jd (Ju (v := .slice (some ⟨g,0,none⟩) _ c) U) U U U ?_))))))))
 refine Jd (Ks Tryz.underlying59 U) U U U (Jd (y_slice3 (l := k) (h := k + 1) (k := fs.length) Tryz.underlying59 Tryz.sizeOf85 U U (congrArg (Value.int .i64) (by omega)) U (by omega) (by omega) (by omega)) U U U (Ja (hN2 _ _ (Jb [(0,.slice (some ⟨g,0,none⟩) _ c),(1,.int _ _),(2,.int _ _)] ⟨U,U,U,O⟩ fun σ => Jg fun N3 hN3 => Jg fun N4 hN4 => Jk (Jd (Jf U) U U U (Jd (Jf U) U U U (Jd (Mc U U) U U U (Ja ?_))))))))
 refine hN4 _ _ (Jb [(0,.slice (some ⟨g,0,none⟩) _ c),(1,.int _ _),(2,.int _ _),(16,.bool _)] ⟨U,U,U,U,O⟩ fun σ => ?_)
 refine Jt (b := _) U (fun hc16 => ?_) (fun hc16 => ?_)
 exfalso; have h9 := odt hc16; omega
 replace hc16 := odf hc16
 refine Jw (hN3 _ _ (Jb [(0,.slice (some ⟨g,0,none⟩) _ c),(1,.int _ _),(2,.int _ _)] ⟨U,U,U,O⟩ fun σ => Jg fun N5 hN5 => Jk (Jd (Ju (v := .slice (some ⟨g,0,none⟩) _ c) U) U U U (Jd (Ks Tryz.underlying59 U) U U U (Jd (Jh U) U U U (Ja (hN5 _ _ (Jb [(0,.slice (some ⟨g,0,none⟩) _ c),(1,.int _ _),(2,.int _ _),(7,.int _ _)] ⟨U,U,U,U,O⟩ fun σ => ?_))))))))
 refine Jg fun N6 hN6 => ?_
 refine Xv [6] (by kernel_rfl) ?_
 refine Jv 0 (TK := [rowl _ _ _ _ _ _,fr]) U (by kernel_rfl) (by kernel_rfl) (by kernel_rfl) #[false,true,false,true,true,true,false,false] (by kernel_rfl) U (Ju (v := .slice (some ⟨g,0,none⟩) _ c) U) U U U (Kc) (listed' := #[true,false,false,false,false,false,false,false]) U ?_
 refine Jv 1 (TK := [rowl _ _ _ _ _ _,fr]) U (by kernel_rfl) (by kernel_rfl) (by kernel_rfl) #[true,false,false,true,true,true,false,false] (by kernel_rfl) U (Jf U) U U U (Kc) (listed' := #[true,true,false,false,false,false,false,false]) U ?_
 refine Jv 2 (TK := [rowl _ _ _ _ _ _,fr]) U (by kernel_rfl) (by kernel_rfl) (by kernel_rfl) #[true,true,false,true,true,true,false,false] (by kernel_rfl) U (Zm (m := k) Tryz.underlying59 Tryz.sizeOf85 U U (by omega) (by omega) (by omega)) U U U (Kc) (listed' := #[true,true,true,false,false,false,false,false]) U ?_
 refine Jv 3 (TK := [rowl _ _ _ _ _ _,fr]) U (by kernel_rfl) (by kernel_rfl) (by kernel_rfl) #[true,true,true,false,true,false,false,false] (by kernel_rfl) U (Ju (v := .slice (some ⟨g,0,none⟩) _ c) U) U U U (Kc) (listed' := #[true,true,true,true,false,false,false,false]) U ?_
 refine Jv 4 (TK := [rowl _ _ _ _ _ _,fr]) U (by kernel_rfl) (by kernel_rfl) (by kernel_rfl) #[true,true,true,true,false,false,false,false] (by kernel_rfl) U (Jf U) U U U (Kc) (listed' := #[true,true,true,true,true,false,false,false]) U ?_
 refine Jv 5 (TK := [rowl _ _ _ _ _ _,fr]) U (by kernel_rfl) (by kernel_rfl) (by kernel_rfl) #[true,true,true,true,true,false,false,false] (by kernel_rfl) U (y_fromA (s := 2) (k := k + 1) (ad := if c = k + 1 then ⟨g,0,none⟩ else ⟨g,(k + 1) * 2,none⟩) Tryz.underlying59 Tryz.sizeOf85 U U (by omega) (by omega) U) U U U (Kc) (listed' := #[true,true,true,true,true,true,false,false]) U ?_
 refine Mr 6 (k' := 1) (listed' := #[true,true,true,true,true,true,true,false]) (by kernel_rfl) U U U ?_
 refine gop_putappend 0 (f := fileCells) (l := fs) (l2 := fs.drop (k + 1)) (k := k) (c := c) Tryz.underlying59 elFile U U (by simp) (fun w hM => src_tail 0 (fun _ => U) hM U (by omega) hcc) Uq U (by omega) (by simp; omega) U ?_
 rw [show k + (fs.drop (k + 1)).length = fs.length - 1 by simp; omega]
 refine Ja ?_
 refine Mo (TK := []) U (Qn) ?_
 refine Jv 7 (TK := []) U (by kernel_rfl) (by kernel_rfl) (by kernel_rfl) #[true,true,true,true,true,true,true,false] (by kernel_rfl) U (Kx (v := .slice (some ⟨g,0,none⟩) _ c) U) U U U (Qn) (listed' := #[true,true,true,true,true,true,true,true]) U ?_
 refine Qd (by kernel_rfl) ?_
 refine hN6 _ _ (gT [rowl _ _ _ _ _ _,fr] U (Jb [(0,.slice (some ⟨g,0,none⟩) _ c),(7,.int _ _)] ⟨U,U,O⟩ fun σ => Jg fun N7 hN7 => Jk (Jd (Ju (v := .slice (some ⟨g,0,none⟩) _ c) U) U U U (Jd (Ju (v := .slice (some ⟨g,0,none⟩) _ c) U) U U U (Jd (Ks Tryz.underlying59 U) U U U (Jd (Jf U) U U U (Jd (y_range (s := 2) (k := (fs.take k ++ fs.drop (k + 1)).length) (j := 1) Tryz.underlying59 Tryz.sizeOf85 U U U (by omega) (by omega) (by omega) (by omega)) U U U ?_)))))))
 refine gop_clear1 0 (f := fileCells) (l := fs.take k ++ fs.drop (k + 1)) (a0 := ⟨⟨.empty,[]⟩,none,0⟩) Tryz.underlying59 Tryz.zeroValue85 (by kernel_rfl) U Uq U hlen.symm (by omega) ?_
 refine Ja (hN7 _ _ (gT [rowl _ _ _ _ _ _,fr] U (Jb [(0,.slice (some ⟨g,0,none⟩) _ c)] ⟨U,O⟩ fun σ => Jg fun N8 hN8 => Jk (Jd (Ju (v := .slice (some ⟨g,0,none⟩) _ c) U) U U U (Jd (Kx (v := .slice (some ⟨g,0,none⟩) _ c) U) U U U (Ja (hN8 _ _ (Jb [(6,.slice (some ⟨g,0,none⟩) _ c)] ⟨U,O⟩ fun σ => ?_))))))))
 refine Ke fun w1 hM => ?_
 refine ⟨_,res1 rfl (rt (v := .slice (some ⟨g,0,none⟩) _ c) rfl),?_⟩
 exact ⟨_,_,[],rfl,⟨rfl,rfl⟩,hM⟩
end Go.Proofs.YtbkameioedmlkaaGreatDoor
namespace Go.Cf
open Go.RowKit
theorem ltS_total {a b : ByteArray} (h : ¬ ltS a b) (hne : a ≠ b) : ltS b a := by
  unfold ltS at h ⊢
  rcases List.le_iff_lt_or_eq.1 (List.not_lt.1 h) with h5 | h5
  · exact h5
  · exact absurd (Yv (beq_iff_eq.2 h5)).symm hne
def pth (a : List FileP) (i : Nat) : Option ByteArray := (a[i]?).map FileP.path
theorem pth_lt {a : List FileP} {i : Nat} (h : i < a.length) : pth a i = some a[i].path := by rw [pth, List.getElem?_eq_getElem h]; rfl
theorem pth_some {a : List FileP} {i : Nat} {x : ByteArray} (h : pth a i = some x) : ∃ h : i < a.length, a[i].path = x := by
  by_cases hi : i < a.length
  · rw [pth_lt hi] at h; exact ⟨hi, Option.some.inj h⟩
  · rw [pth, List.getElem?_eq_none (by omega)] at h; cases h
def seenTo (a : List FileP) (i : Nat) (x : ByteArray) : Prop := ∃ j, j < i ∧ pth a j = some x
def restFrom (a : List FileP) (i : Nat) (x : ByteArray) : Prop := ∃ j, i ≤ j ∧ pth a j = some x
def nxt (a : List FileP) (i : Nat) (p : ByteArray) : Nat := if pth a i = some p then i + 1 else i
theorem seen_nxt {a : List FileP} {i : Nat} {p x : ByteArray} : seenTo a (nxt a i p) x ↔ seenTo a i x ∨ (pth a i = some p ∧ x = p) := by
  unfold nxt
  split
  · rename_i h
    constructor
    · rintro ⟨j, hj, hx⟩
      rcases Nat.lt_succ_iff_lt_or_eq.1 hj with h1 | rfl
      · exact .inl ⟨j, h1, hx⟩
      · rw [h] at hx; exact .inr ⟨h, (Option.some.inj hx).symm⟩
    · rintro (⟨j, hj, hx⟩ | ⟨_, rfl⟩)
      · exact ⟨j, by omega, hx⟩
      · exact ⟨i, by omega, h⟩
  · rename_i h
    exact ⟨.inl, fun h1 => h1.elim id fun h2 => absurd h2.1 h⟩
theorem rest_nxt {a : List FileP} {i : Nat} {p x : ByteArray} (h : restFrom a (nxt a i p) x) : restFrom a i x := by
  obtain ⟨j, hj, hx⟩ := h
  refine ⟨j, ?_, hx⟩
  unfold nxt at hj
  split at hj <;> omega
theorem VTree.above {a : List FileP} (v : VTree a) {i : Nat} {p y : ByteArray} (ha : ∀ q, pth a i = some q → ¬ ltS q p) (h : restFrom a (nxt a i p) y) : ltS p y := by
  obtain ⟨j, hj, hy⟩ := h
  obtain ⟨hjl, rfl⟩ := pth_some hy
  unfold nxt at hj
  split at hj
  · rename_i h
    obtain ⟨hi, rfl⟩ := pth_some h
    exact v.mono i j (by omega) hjl
  · rename_i h
    have hi : i < a.length := by omega
    have h1 := ha _ (pth_lt hi)
    have h2 : a[i].path ≠ p := fun h3 => h (by rw [pth_lt hi, h3])
    have h4 := ltS_total h1 h2
    rcases Nat.lt_or_eq_of_le hj with h5 | rfl
    · exact Xi h4 (v.mono i j h5 hjl)
    · exact h4
structure Merge (a b : List FileP) (i k : Nat) (out : List ByteArray) : Prop where
  inc : out.Pairwise ltS
  mem : ∀ x, x ∈ out ↔ (seenTo a i x ∨ seenTo b k x) ∧ diffAt a b x = true
  low : ∀ x y, seenTo a i x ∨ seenTo b k x → restFrom a i y ∨ restFrom b k y → ltS x y
  hi : i ≤ a.length
  hk : k ≤ b.length
  len : out.length ≤ i + k
theorem Merge.start (a b : List FileP) : Merge a b 0 0 [] :=
  ⟨.nil, fun x => ⟨fun h => (by cases h), fun h => h.1.elim (fun ⟨_, h, _⟩ => absurd h (Nat.not_lt_zero _)) (fun ⟨_, h, _⟩ => absurd h (Nat.not_lt_zero _))⟩, fun x y h _ => h.elim (fun ⟨_, h, _⟩ => absurd h (Nat.not_lt_zero _)) (fun ⟨_, h, _⟩ => absurd h (Nat.not_lt_zero _)), Nat.zero_le _, Nat.zero_le _, Nat.zero_le _⟩
theorem nxt_le {a : List FileP} {i : Nat} {p : ByteArray} (h : i ≤ a.length) : nxt a i p ≤ a.length := by
  unfold nxt; split
  · rename_i h1; obtain ⟨h2, _⟩ := pth_some h1; omega
  · exact h
def withD (a b : List FileP) (out : List ByteArray) (p : ByteArray) : List ByteArray := if diffAt a b p = true then out ++ [p] else out
theorem Merge.step {a b : List FileP} {i k : Nat} {out : List ByteArray} {p : ByteArray} (h : Merge a b i k out) (va : VTree a) (vb : VTree b) (hp : pth a i = some p ∨ pth b k = some p)
    (ha : ∀ q, pth a i = some q → ¬ ltS q p) (hb : ∀ q, pth b k = some q → ¬ ltS q p) : Merge a b (nxt a i p) (nxt b k p) (withD a b out p) := by
  have hs : ∀ x, (seenTo a (nxt a i p) x ∨ seenTo b (nxt b k p) x) ↔ (seenTo a i x ∨ seenTo b k x) ∨ x = p := by
    intro x
    rw [seen_nxt, seen_nxt]
    constructor
    · rintro ((h1 | h1) | (h1 | h1))
      · exact .inl (.inl h1)
      · exact .inr h1.2
      · exact .inl (.inr h1)
      · exact .inr h1.2
    · rintro ((h1 | h1) | rfl)
      · exact .inl (.inl h1)
      · exact .inr (.inl h1)
      · rcases hp with h2 | h2
        · exact .inl (.inr ⟨h2, rfl⟩)
        · exact .inr (.inr ⟨h2, rfl⟩)
  have hrest : restFrom a i p ∨ restFrom b k p := hp.imp (fun h => ⟨i, Nat.le_refl _, h⟩) (fun h => ⟨k, Nat.le_refl _, h⟩)
  refine ⟨?_, fun x => ?_, fun x y hx hy => ?_, nxt_le h.hi, nxt_le h.hk, ?_⟩
  · unfold withD
    split
    · refine List.pairwise_append.2 ⟨h.inc, List.pairwise_singleton _ _, fun x hx y hy => ?_⟩
      rw [List.mem_singleton.1 hy]
      exact h.low x p ((h.mem x).1 hx).1 hrest
    · exact h.inc
  · rw [hs]
    unfold withD
    split
    · rename_i hd
      rw [List.mem_append, List.mem_singleton, h.mem]
      constructor
      · rintro (⟨h1, h2⟩ | rfl)
        · exact ⟨.inl h1, h2⟩
        · exact ⟨.inr rfl, hd⟩
      · rintro ⟨h1 | rfl, h2⟩
        · exact .inl ⟨h1, h2⟩
        · exact .inr rfl
    · rename_i hd
      rw [h.mem]
      constructor
      · rintro ⟨h1, h2⟩; exact ⟨.inl h1, h2⟩
      · rintro ⟨h1 | rfl, h2⟩
        · exact ⟨h1, h2⟩
        · exact absurd h2 hd
  · rcases (hs x).1 hx with h1 | rfl
    · exact h.low x y h1 (hy.imp rest_nxt rest_nxt)
    · exact hy.elim (va.above ha) (vb.above hb)
  · have h9 := h.len
    have h8 : (withD a b out p).length ≤ out.length + 1 := by unfold withD; split <;> simp
    unfold nxt
    rcases hp with h2 | h2
    · rw [if_pos h2]; split <;> omega
    · rw [if_pos h2]; split <;> omega
theorem seen_all {a : List FileP} {x : ByteArray} : seenTo a a.length x ↔ ∃ f ∈ a, f.path = x := by
  constructor
  · rintro ⟨j, hj, hx⟩
    obtain ⟨h1, h2⟩ := pth_some hx
    exact ⟨_, List.getElem_mem h1, h2⟩
  · rintro ⟨f, hf, rfl⟩
    obtain ⟨j, hj, rfl⟩ := List.getElem_of_mem hf
    exact ⟨j, hj, pth_lt hj⟩
theorem Merge.done {a b : List FileP} {i k : Nat} {out : List ByteArray} (h : Merge a b i k out) (hi : ¬ i < a.length) (hk : ¬ k < b.length) : out = chgL a b := by
  have h1 := h.hi
  have h2 := h.hk
  obtain rfl : i = a.length := by omega
  obtain rfl : k = b.length := by omega
  refine inc_ext h.inc (leafS_pair _) fun x => ?_
  rw [h.mem, chgL, leafS_mem, List.mem_filter, seen_all, seen_all, List.map_append, List.mem_append, List.mem_map, List.mem_map]
end Go.Cf
namespace Go.Cf
open Go.RowKit
theorem QX {l : List ByteArray} : linesF l = ⟨0, 0⟩ ↔ l.length ≤ 120 ∧ ∀ s ∈ l, lineCode s = 0 := by
  unfold linesF
  by_cases h : 120 < l.length
  · rw [if_pos h]
    exact ⟨fun h9 => absurd (congrArg Fault.code h9) (show ¬ (2 : Int) = 0 by decide), fun h9 => absurd h9.1 (by omega)⟩
  · rw [if_neg h, Wk]
    constructor
    · intro h1
      refine ⟨by omega, fun s hs => ?_⟩
      obtain ⟨j, hj, rfl⟩ := List.getElem_of_mem hs
      exact h1 j hj
    · rintro ⟨-, h2⟩ j hj
      exact h2 _ (List.getElem_mem hj)
theorem raw_mem : ∀ (hs : List Hunk) (low : Nat) (t : List ByteArray) (s : ByteArray), s ∈ rawFrom low hs t → s ∈ t ∨ ∃ h ∈ hs, s ∈ h.new
  | [], low, t, s, h => .inl (List.mem_of_mem_drop h)
  | h :: r, low, t, s, hm => by
    rw [rawFrom] at hm
    rcases List.mem_append.1 hm with h1 | h1
    · exact .inl (List.mem_of_mem_drop (List.mem_of_mem_take h1))
    · rcases List.mem_append.1 h1 with h2 | h2
      · exact .inr ⟨h, .head _, h2⟩
      · exact (raw_mem r _ t s h2).imp id fun ⟨x, hx, hs⟩ => ⟨x, .tail _ hx, hs⟩
theorem patch_new {hs : List Hunk} (h : patchF hs = ⟨0, 0⟩) : ∀ x ∈ hs, linesF x.new = ⟨0, 0⟩ := by
  unfold patchF at h
  split at h
  · cases h
  intro x hx
  obtain ⟨j, hj, rfl⟩ := List.getElem_of_mem hx
  have h1 := Wk.1 h j hj
  unfold hunkC at h1
  split at h1
  · cases h1
  split at h1
  · rename_i h2; exact absurd (Ua h1) h2
  split at h1
  · rename_i h2; exact absurd (Ua h1) h2
  · rename_i h2; exact Classical.not_not.1 h2
theorem apply_lines {hs : List Hunk} {text : List ByteArray} (h : applyF hs text = ⟨0, 0⟩) : linesF (applyR hs text) = ⟨0, 0⟩ := by
  obtain ⟨-, ok, he⟩ := Xd (hs := hs) (text := text) (by rw [h])
  have hp : patchF hs = ⟨0, 0⟩ := by
    apply Classical.byContradiction
    intro h1
    rw [applyF, if_pos h1] at h
    exact h1 h
  rw [he]
  refine QX.2 ⟨ok.len, fun s hs' => ?_⟩
  rcases raw_mem _ _ _ _ hs' with h1 | ⟨x, hx, h1⟩
  · exact (QX.1 ok.lines).2 s h1
  · exact (QX.1 (patch_new hp x hx)).2 s h1
theorem relP_symm (a b : ByteArray) : relP a b = relP b a := by
  unfold relP
  rw [Bool.or_comm (hasP a (b ++ slash))]
  congr 1
  exact decide_eq_decide.2 ⟨Eq.symm, Eq.symm⟩
structure TOk (fs : List FileP) : Prop where
  len : fs.length ≤ 24
  ok : ∀ f ∈ fs, pathOk f.path = true
  lines : ∀ f ∈ fs, linesF f.lines = ⟨0, 0⟩
  lt : fs.Pairwise fun f g => ltS f.path g.path
  un : fs.Pairwise fun f g => relP f.path g.path = false
theorem Zg {path : ByteArray} {l : List FileP} {i : Nat} {ex : Int} (h : clashF path ex i l = false) : ∀ k (hk : k < l.length), ((i + k : Nat) : Int) ≠ ex → relP l[k].path path = false := fun k hk hne => by
  cases h1 : relP l[k].path path with
  | false => rfl
  | true => rw [UY k hk hne h1] at h; cases h
theorem tok_of {fs : List FileP} (h : treeF fs = ⟨0, 0⟩) : TOk fs := by
  have v := Qq h
  have hz : ∀ j (hj : j < fs.length), treeC fs j fs[j] = 0 := by
    unfold treeF at h
    split at h
    · cases h
    · exact Wk.1 h
  refine ⟨v.len, v.ok, v.lines, List.pairwise_iff_getElem.2 fun i j hi hj hij => v.mono i j hij hj, List.pairwise_iff_getElem.2 fun i j hi hj hij => ?_⟩
  have h1 := hz j hj
  unfold treeC at h1
  split at h1
  · cases h1
  split at h1
  · cases h1
  split at h1
  · cases h1
  · rename_i hc
    have h2 := Zg (Bool.eq_false_iff.2 hc) i (by simp; omega) (by omega)
    rwa [List.getElem_take] at h2
theorem tok_tree {fs : List FileP} (h : TOk fs) : treeF fs = ⟨0, 0⟩ := by
  rw [treeF, if_neg (by have := h.len; omega)]
  refine Qy fun i hi => ?_
  unfold treeC
  rw [if_neg (fun h9 => h9 (h.ok _ (List.getElem_mem hi)))]
  rw [if_neg (fun h9 => by
    obtain ⟨h1, h2⟩ := h9
    apply h2
    unfold prevS
    rw [List.getElem?_eq_getElem (show i - 1 < fs.length by omega)]
    exact List.pairwise_iff_getElem.1 h.lt (i - 1) i (by omega) hi (by omega))]
  rw [if_neg (fun h9 => by
    rw [clashF_no (fun k hk _ => by
      rw [List.getElem_take]
      exact List.pairwise_iff_getElem.1 h.un k i (by simp at hk; omega) hi (by simp at hk; omega))] at h9
    cases h9)]
  rw [h.lines _ (List.getElem_mem hi)]
theorem TOk.insert {fs : List FileP} (h : TOk fs) {k : Nat} {f : FileP} (hl : fs.length < 24) (hp : pathOk f.path = true) (hL : linesF f.lines = ⟨0, 0⟩) (h1 : ∀ m (hm : m < fs.length), m < k → ltS fs[m].path f.path) (h2 : ∀ m (hm : m < fs.length), k ≤ m → ¬ ltS fs[m].path f.path)
    (hu : ∀ g ∈ fs, relP g.path f.path = false) : TOk (fs.take k ++ f :: fs.drop k) := by
  have hmem : ∀ g, g ∈ fs.take k ++ f :: fs.drop k → g ∈ fs ∨ g = f := fun g hg => by
    rcases List.mem_append.1 hg with h9 | h9
    · exact .inl (List.mem_of_mem_take h9)
    · rcases List.mem_cons.1 h9 with rfl | h9
      · exact .inr rfl
      · exact .inl (List.mem_of_mem_drop h9)
  have hne : ∀ g ∈ fs, g.path ≠ f.path := fun g hg he => by
    have := hu g hg
    unfold relP at this
    rw [decide_eq_true he] at this
    cases this
  have hT : ∀ g ∈ fs.take k, ltS g.path f.path := fun g hg => by
    obtain ⟨j, hj, rfl⟩ := List.getElem_of_mem hg
    rw [List.getElem_take]
    exact h1 j (by simp at hj; omega) (by simp at hj; omega)
  have hD : ∀ g ∈ fs.drop k, ltS f.path g.path := fun g hg => by
    have hgm := List.mem_of_mem_drop hg
    obtain ⟨j, hj, rfl⟩ := List.getElem_of_mem hg
    rw [List.getElem_drop] at hgm ⊢
    exact ltS_total (h2 (k + j) (by simp at hj; omega) (by omega)) (hne _ hgm)
  refine ⟨by simp; omega, fun g hg => ?_, fun g hg => ?_, ?_, ?_⟩
  · rcases hmem g hg with h9 | rfl
    · exact h.ok g h9
    · exact hp
  · rcases hmem g hg with h9 | rfl
    · exact h.lines g h9
    · exact hL
  · refine List.pairwise_append.2 ⟨h.lt.take, List.pairwise_cons.2 ⟨hD, h.lt.drop⟩, fun a ha b hb => ?_⟩
    rcases List.mem_cons.1 hb with rfl | hb
    · exact hT a ha
    · exact Xi (hT a ha) (hD b hb)
  · refine List.pairwise_append.2 ⟨h.un.take, List.pairwise_cons.2 ⟨fun g hg => ?_, h.un.drop⟩, fun a ha b hb => ?_⟩
    · rw [relP_symm]; exact hu g (List.mem_of_mem_drop hg)
    · rcases List.mem_cons.1 hb with rfl | hb
      · exact hu a (List.mem_of_mem_take ha)
      · have h3 := h.un
        rw [← List.take_append_drop k fs] at h3
        exact (List.pairwise_append.1 h3).2.2 a ha b hb
theorem TOk.sub {fs gs : List FileP} (h : TOk fs) (hs : gs.Sublist fs) : TOk gs :=
  ⟨Nat.le_trans hs.length_le h.len, fun f hf => h.ok f (hs.subset hf), fun f hf => h.lines f (hs.subset hf), h.lt.sublist hs, h.un.sublist hs⟩
theorem del_sub {α : Type} (l : List α) (k : Nat) : (l.take k ++ l.drop (k + 1)).Sublist l := by
  have h : (l.take k ++ l.drop (k + 1)).Sublist (l.take k ++ l.drop k) := List.Sublist.append (List.Sublist.refl _) (by
    rw [show k + 1 = k + 1 from rfl, ← List.drop_drop (i := 1) (j := k)]
    exact List.drop_sublist _ _)
  rwa [List.take_append_drop] at h
theorem TOk.edit {fs : List FileP} (h : TOk fs) {k : Nat} (hk : k < fs.length) {L : List ByteArray} (hL : linesF L = ⟨0, 0⟩) : TOk (fs.set k ⟨fs[k].path, L⟩) := by
  have hg : ∀ j (hj : j < fs.length), ((fs.set k ⟨fs[k].path, L⟩)[j]'(by simpa using hj)).path = fs[j].path := fun j hj => by
    by_cases he : k = j
    · subst he; simp
    · rw [List.getElem_set_ne he]
  refine ⟨by simpa using h.len, fun f hf => ?_, fun f hf => ?_, List.pairwise_iff_getElem.2 fun i j hi hj hij => ?_, List.pairwise_iff_getElem.2 fun i j hi hj hij => ?_⟩
  · rcases List.mem_or_eq_of_mem_set hf with h9 | rfl
    · exact h.ok f h9
    · exact h.ok fs[k] (List.getElem_mem hk)
  · rcases List.mem_or_eq_of_mem_set hf with h9 | rfl
    · exact h.lines f h9
    · exact hL
  · rw [List.length_set] at hi hj
    rw [hg i hi, hg j hj]
    exact List.pairwise_iff_getElem.1 h.lt i j hi hj hij
  · rw [List.length_set] at hi hj
    rw [hg i hi, hg j hj]
    exact List.pairwise_iff_getElem.1 h.un i j hi hj hij
theorem fpl_ins (fs : List FileC) (k : Nat) (x : FileC) : fpl (fs.take k ++ x :: fs.drop k) = (fpl fs).take k ++ x.pl :: (fpl fs).drop k := by
  unfold fpl
  rw [List.map_append, List.map_cons, List.map_take, List.map_drop]
theorem fpl_del (fs : List FileC) (k : Nat) : fpl (fs.take k ++ fs.drop (k + 1)) = (fpl fs).take k ++ (fpl fs).drop (k + 1) := by
  unfold fpl
  rw [List.map_append, List.map_take, List.map_drop]
theorem fpl_edit {fs : List FileC} {k : Nat} (hk : k < fs.length) (L : List ByteArray) (A : Option Addr) (c : Nat) : fpl (fs.set k ⟨⟨fs[k].pl.path, L⟩, A, c⟩) = (fpl fs).set k ⟨((fpl fs)[k]'(by simpa using hk)).path, L⟩ := by
  unfold fpl
  rw [List.map_set, List.getElem_map]
theorem clash_c {fs : List FileC} {path : ByteArray} (h : clashF path (-1) 0 (fpl fs) = false) : ∀ g ∈ fpl fs, relP g.path path = false := fun g hg => by
  obtain ⟨j, hj, rfl⟩ := List.getElem_of_mem hg
  exact Zg h j hj (by omega)
theorem clash_d {fs : List FileC} {path : ByteArray} {k : Nat} (h : clashF path (k : Int) 0 (fpl fs) = false) : ∀ g ∈ fpl (fs.take k ++ fs.drop (k + 1)), relP g.path path = false := fun g hg => by
  rw [fpl_del] at hg
  rcases List.mem_append.1 hg with h1 | h1
  · obtain ⟨j, hj, rfl⟩ := List.getElem_of_mem h1
    rw [List.getElem_take]
    simp only [List.length_take] at hj
    exact Zg h j (by omega) (by omega)
  · obtain ⟨j, hj, rfl⟩ := List.getElem_of_mem h1
    rw [List.getElem_drop]
    simp only [List.length_drop] at hj
    exact Zg h (k + 1 + j) (by omega) (by omega)
theorem un_ne {fs : List FileC} {path : ByteArray} (h : ∀ g ∈ fpl fs, relP g.path path = false) : ∀ f ∈ fs, f.pl.path ≠ path := fun f hf he => by
  have h1 := h f.pl (List.mem_map_of_mem hf)
  unfold relP at h1
  rw [decide_eq_true he] at h1
  cases h1
end Go.Cf
namespace Go.Cf
open Go.RowKit
structure ChgC where
  kind : Int
  path : ByteArray
  dest : ByteArray
  LA : Option Addr
  lc : Nat
  lines : List ByteArray
  PA : Option Addr
  pc : Nat
  hs : List HunkC
abbrev chgCells (x : ChgC) : List Value := [.int .i64 x.kind, .string x.path, .string x.dest, .slice x.LA x.lines.length x.lc, .slice x.PA x.hs.length x.pc]
structure ChgR (w : World) (lo : Nat) (x : ChgC) : Prop where
  rd : Rdl w lo 1 strCells x.LA x.lines
  sb : SB x.LA x.lines.length x.lc 16
  pat : PatR w lo x.PA x.pc x.hs
theorem ChgR.lasts {lo : Nat} {x : ChgC} : Lasts lo (fun w => ChgR w lo x) := fun w w' h hk => ⟨h.rd.keep hk, h.sb, PatR.lasts w w' h.pat hk⟩
structure COk (x : ChgC) : Prop where
  path : pathOk x.path = true
  dest : x.kind = 3 → pathOk x.dest = true
  lines : linesF x.lines = ⟨0, 0⟩
theorem ins_get {α : Type} {l : List α} {k : Nat} {x : α} (hk : k ≤ l.length) : (l.take k ++ x :: l.drop k)[k]? = some x := by
  rw [List.getElem?_append_right (by simp; omega)]
  simp [Nat.min_eq_left hk]
theorem ins_set {α : Type} {l : List α} {k : Nat} {x y : α} (hk : k ≤ l.length) : (l.take k ++ x :: l.drop k).set k y = l.take k ++ y :: l.drop k := by
  rw [List.set_append_right _ _ (by simp; omega)]
  simp [Nat.min_eq_left hk]
theorem ins_len {α : Type} {l : List α} {k : Nat} {x : α} (hk : k ≤ l.length) : (l.take k ++ x :: l.drop k).length = l.length + 1 := by
  simp; omega
theorem del_len {α : Type} {l : List α} {k : Nat} (hk : k < l.length) : (l.take k ++ l.drop (k + 1)).length = l.length - 1 := by
  simp; omega
theorem TOk.v {fs : List FileP} (h : TOk fs) : VTree fs := Qq (tok_tree h)
theorem sb40 {A : Option Addr} {n c : Nat} (h1 : n ≤ c) (h2 : c ≤ maxLen) (h3 : A = none → c = 0) (h4 : n ≤ 100) : SB A n c 40 := ⟨h1, h2, h3, Nat.le_trans (Nat.mul_le_mul_right 40 h4) (by decide)⟩
theorem sb16 {A : Option Addr} {n c : Nat} (h1 : n ≤ c) (h2 : c ≤ maxLen) (h3 : A = none → c = 0) (h4 : n ≤ 200) : SB A n c 16 := ⟨h1, h2, h3, Nat.le_trans (Nat.mul_le_mul_right 16 h4) (by decide)⟩
theorem ins_files {P : FileC → Prop} {fs : List FileC} {k : Nat} {x : FileC} (hx : P x) : ∀ f ∈ fs.take k ++ x :: fs.drop k, f ∈ fs ∨ P f := fun f hf => by
  rcases List.mem_append.1 hf with h | h
  · exact .inl (List.mem_of_mem_take h)
  · rcases List.mem_cons.1 h with rfl | h
    · exact .inr hx
    · exact .inl (List.mem_of_mem_drop h)
theorem KU {fs : List FileC} {k : Nat} : ∀ f ∈ fs.take k ++ fs.drop (k + 1), f ∈ fs := fun f hf => (del_sub fs k).subset hf
end Go.Cf
namespace Go.Proofs.YtbkameioedmlkaaGreatDoor
open Go.RowKit Go.Cf
set_option maxRecDepth 10000
theorem KQ (a : Addr) (w : World) : (Instr.fieldAt 118 (.pointer (some a)) 0).run Tryz.prog w = .ok (.pointer (some (a.add 0))) w := by kernel_rfl
theorem Xy (a : Addr) (w : World) : (Instr.fieldAt 118 (.pointer (some a)) 1).run Tryz.prog w = .ok (.pointer (some (a.add 1))) w := by kernel_rfl
theorem Xe (a : Addr) (w : World) : (Instr.fieldAt 118 (.pointer (some a)) 2).run Tryz.prog w = .ok (.pointer (some (a.add 2))) w := by kernel_rfl
theorem Wt (a : Addr) (w : World) : (Instr.fieldAt 118 (.pointer (some a)) 3).run Tryz.prog w = .ok (.pointer (some (a.add 3))) w := by kernel_rfl
theorem Ud (a : Addr) (w : World) : (Instr.fieldAt 118 (.pointer (some a)) 4).run Tryz.prog w = .ok (.pointer (some (a.add 4))) w := by kernel_rfl
theorem fa81_0 (a : Addr) (w : World) : (Instr.fieldAt 81 (.pointer (some a)) 0).run Tryz.prog w = .ok (.pointer (some (a.add 0))) w := by kernel_rfl
set_option maxHeartbeats 4000000 in
theorem bsf2_any (w : World) (A : Option Addr) (c : Nat) (fs : List FileC) (hR : TreeR w 0 A c fs) (v : VTree (fpl fs)) (path : ByteArray) : Calls Tryz.prog 99 #[.slice A fs.length c, .string path, .func (.func 100) #[] #[]] w fun e w' => ∃ (k : Nat) (b : Bool), e = .returned (.tuple #[.int .i64 (k : Int), .bool b]) ∧ Below w.heap.size w w' ∧ (b = true → ∃ h : k < fs.length, fs[k].pl.path = path) ∧ (b = false → k ≤ fs.length ∧ (∀ m (h : m < fs.length), m < k → ltS fs[m].pl.path path) ∧ (∀ m (h : m < fs.length), k ≤ m → ¬ ltS fs[m].pl.path path)) := by
 have hsl := hR.sb.len
 have hsm := hR.sb.max
 have hmx : maxLen = 9223372036854775807 := rfl
 have hlen : fs.length ≤ 24 := by have h9 := v.len; simpa using h9
 refine Kz Tryz.func99 U Tryz.ntmps99 (leb U) ?_
 refine Jb [(0,.slice _ _ _),(1,.string _),(2,.func (.func 100) #[] #[])] ⟨U,U,U,O⟩ fun σ => Jg fun N1 hN1 => Jk (Jd (Jh U) U U U (Jd (Ji U) U U U (Ja (hN1 _ _ (Jb [(0,.slice _ _ _),(1,.string _),(2,.func (.func 100) #[] #[])] ⟨U,U,U,O⟩ fun σ => Jg fun N2 hN2 => Jk (Jd (Kl U) U U U (Jd (Ks Tryz.underlying59 U) U U U (Jd (Jh U) U U U ?_))))))))
 refine Ja (hN2 _ _ (Jb [(0,.slice _ _ _),(1,.string _),(2,.func (.func 100) #[] #[]),(8,.int _ _)] ⟨U,U,U,U,O⟩ fun σ => Jg fun N3 hN3 => Jk (Jd (Jf U) U U U (Jd (Jh U) U U U (Jd (Jh U) U U U (Ja (hN3 _ _ (Jb [(0,.slice _ _ _),(1,.string _),(2,.func (.func 100) #[] #[]),(8,.int _ _),(9,.int _ _),(10,.int _ _)] ⟨U,U,U,U,U,U,O⟩ fun σ => ?_))))))))
 refine Jg fun N4 hN4 => Kn ?_
 refine Mm [(9,.int _ _),(10,.int _ _)] [(0,.slice _ _ _),(1,.string _),(2,.func (.func 100) #[] #[]),(8,.int _ _)] ⟨U,U,O⟩ ⟨U,U,U,U,O⟩ fun σ => ?_
 refine Ml (G := Nat × Nat) (fun (i,j) => i ≤ j ∧ j ≤ fs.length ∧ (∀ m (h : m < fs.length),m < i → ltS fs[m].pl.path path) ∧ (∀ m (h : m < fs.length),j ≤ m → ¬ ltS fs[m].pl.path path)) (fun (i,j) => j - i) (fun (i,j) => [(9,.int .i64 (i : Int)),(10,.int .i64 (j : Int))]) (fun (i,j) => []) ((0,fs.length)) ?h0 ⟨U,U,O⟩ ⟨U,U,U,U,O⟩ U ?round
 case h0 => exact ⟨Nat.zero_le _,Nat.le_refl _,fun _ _ h => absurd h (Nat.not_lt_zero _),fun m h h9 => absurd h (by omega)⟩
 case round =>
  rintro ⟨i,j⟩ hφ σ
  obtain ⟨hij,hj,hlo,hhi⟩ : i ≤ j ∧ j ≤ fs.length ∧ (∀ m (h : m < fs.length),m < i → ltS fs[m].pl.path path) ∧ (∀ m (h : m < fs.length),j ≤ m → ¬ ltS fs[m].pl.path path) := hφ
  refine Jg fun N5 hN5 => Jg fun N6 hN6 => Jk (Jd (Jf U) U U U (Jd (Jf U) U U U (Jd (Me U U) U U U (Ja (hN6 _ _ (Jb [(0,.slice _ _ _),(1,.string _),(2,.func (.func 100) #[] #[]),(8,.int _ _),(9,.int _ _),(10,.int _ _),(17,.bool _)] ⟨U,U,U,U,U,U,U,O⟩ fun σ => ?_))))))
  refine Jt (b := _) U (fun hc17 => ?_) (fun hc17 => ?_)
  replace hc17 := odt hc17
  have hh : (i + j) / 2 < fs.length := by omega
  obtain ⟨ad,rfl,-,hca⟩ := hR.rd.at_ hh
  refine Jw (hN5 _ _ (Jb [(0,.slice _ _ _),(1,.string _),(2,.func (.func 100) #[] #[]),(8,.int _ _),(9,.int _ _),(10,.int _ _)] ⟨U,U,U,U,U,U,O⟩ fun σ => Kn (Jg fun N7 hN7 => Jk (Jd (Jf U) U U U (Jd (Jf U) U U U (Jd (Kr U U ⟨by omega,by omega⟩) U U U (Jd (y_toU (by kernel_rfl) Tryz.underlying180 U (by omega) (by omega)) U U U (Jd (y_shrU U U) U U U ?_))))))))
  refine Jd (y_ofU (by kernel_rfl) Tryz.underlying3 U (by omega) (by omega)) U U U (Jd (Jh U) U U U (Ja (hN7 _ _ (Jb [(0,.slice _ _ _),(1,.string _),(2,.func (.func 100) #[] #[]),(8,.int _ _),(9,.int _ _),(10,.int _ _),(11,.int _ _)] ⟨U,U,U,U,U,U,U,O⟩ fun σ => Jg fun N8 hN8 => Jk (Jd (Ju (v := .func (.func 100) #[] #[]) U) U U U (Jd (Kl U) U U U (Jd (Jf U) U U U (Jd (Jz (m := (i + j) / 2) Tryz.underlying59 Tryz.sizeOf85 U U (by omega) (by omega) (by omega)) U U U ?_))))))))
  refine Jd (Kk (cs := [_,_]) Tryz.isAgg85 Tryz.sizeOf85 U U (Mv hca)) U U U (Jd (Ku U) U U U ?_)
  refine Km (Wx (vs := [.agg #[_,_],.string _]) (cs := []) U Tryz.func100 U (by kernel_rfl) U) (fun w hM => by have hc := KK w fs[(i + j) / 2] path; exact hc) U U U ?_
  refine Jd (Me U U) U U U (Ja (hN8 _ _ (Jb [(0,.slice _ _ _),(1,.string _),(2,.func (.func 100) #[] #[]),(8,.int _ _),(9,.int _ _),(10,.int _ _),(11,.int _ _),(31,.bool _)] ⟨U,U,U,U,U,U,U,U,O⟩ fun σ => ?_)))
  refine Jt (b := _) U (fun hc31 => ?_) (fun hc31 => ?_)
  replace hc31 := odt hc31
  have hlt := cmpS_lt.1 hc31
  have hle2 := bs_left v hh hlt
  refine Jk (Jd (Jf U) U U U (Jd (Kr U U ⟨by omega,by omega⟩) U U U (Jd (Jh U) U U U (Ja ?_))))
  refine Kt (((i + j) / 2 + 1,j)) (by show j - ((i + j) / 2 + 1) < j - i; omega) (⟨by show (i + j) / 2 + 1 ≤ j; omega,hj,fun m h h9 => hle2 m h (by omega),hhi⟩) ⟨(by first | rfl | exact congrArg (Value.int .i64) (by omega)),(by first | rfl | exact congrArg (Value.int .i64) (by omega)),trivial⟩ ⟨U,U,U,U,O⟩ ⟨_,U⟩
  replace hc31 := odf hc31
  have hge := fun h9 => hc31 (cmpS_lt.2 h9)
  have hge2 := bs_right v hh hge
  refine Jk (Jd (Jf U) U U U (Jd (Jh U) U U U (Ja ?_)))
  refine Kt ((i,(i + j) / 2)) (by show (i + j) / 2 - i < j - i; omega) (⟨by show i ≤ (i + j) / 2; omega,by show (i + j) / 2 ≤ fs.length; omega,hlo,hge2⟩) ⟨(by first | rfl | exact congrArg (Value.int .i64) (by omega)),(by first | rfl | exact congrArg (Value.int .i64) (by omega)),trivial⟩ ⟨U,U,U,U,O⟩ ⟨_,U⟩
  replace hc17 := odf hc17
  refine Mx ?_
  refine hN4 _ _ (Jb [(0,.slice _ _ _),(1,.string _),(2,.func (.func 100) #[] #[]),(8,.int _ _),(9,.int _ _)] ⟨U,U,U,U,U,O⟩ fun σ => Jg fun N9 hN9 => Jk (Jd (Jf U) U U U (Jd (Jf U) U U U (Jd (Jf U) U U U (Jd (Me U U) U U U (Jd (Jn U) U U U ?_))))))
  refine Kh (want := true) U U U U U U (fun hg39 => ?_) (fun hg39 => ?_)
  have hg39d := odt hg39
  have hi : i < fs.length := by omega
  obtain ⟨ad,rfl,-,hcb⟩ := hR.rd.at_ hi
  refine Jd (Je (Ju (v := .func (.func 100) #[] #[]) U)) U U U (Js U U U U hg39 (Jd (Je (Kl U)) U U U (Js U U U U hg39 (Jd (Je (Jf U)) U U U (Js U U U U hg39 (Jd (Je (Jz (m := i) Tryz.underlying59 Tryz.sizeOf85 U U (by omega) (by omega) (by omega))) U U U (Js U U U U hg39 (Jd (Je (Kk (cs := [_,_]) Tryz.isAgg85 Tryz.sizeOf85 U U (Mv hcb))) U U U ?_))))))))
  refine Js U U U U hg39 (Jd (Je (Ku U)) U U U (Js U U U U hg39 ?_))
  refine Km (Wx (vs := [.agg #[_,_],.string _]) (cs := []) U Tryz.func100 U (by kernel_rfl) U) (fun w hM => by have hc := KK w fs[i] path; exact hc) U U U ?_
  refine Js U U U U hg39 (Jd (Je (Mc U U)) U U U (Jd (Jo U hg39 U) U U U (Jd (Jh U) U U U (Jd (Ji U) U U U (Ja (hN9 _ _ (Jb [(6,.int _ _),(7,.bool _)] ⟨U,U,O⟩ fun σ => ?_)))))))
  refine Ke fun w1 hM => ?_
  refine ⟨_,res2 rfl (rt (v := .int _ _) rfl) (rt (v := .bool _) rfl),?_⟩
  have hje : j = i := by omega
  subst hje
  first
    | exact ⟨j,decide (cmpS fs[j].pl.path path = 0),rfl,hM.low,fun h => ⟨hi,KY.1 (odt h)⟩,fun _ => ⟨hj,hlo,hhi⟩⟩
    | exact ⟨j,false,rfl,hM.low,(fun h => by cases h),fun _ => ⟨hj,hlo,hhi⟩⟩
  have hg39d := odf hg39
  refine Jj U U U U hg39 U U (Jj U U U U hg39 U U (Jj U U U U hg39 U U (Jj U U U U hg39 U U (Jj U U U U hg39 U U (Jj U U U U hg39 U U (Jj U U U U hg39 U U (Jd (Jp U hg39 U) U U U (Jd (Jh U) U U U ?_))))))))
  refine Jd (Ji U) U U U (Ja (hN9 _ _ (Jb [(6,.int _ _),(7,.bool _)] ⟨U,U,O⟩ fun σ => ?_)))
  refine Ke fun w1 hM => ?_
  refine ⟨_,res2 rfl (rt (v := .int _ _) rfl) (rt (v := .bool _) rfl),?_⟩
  have hje : j = i := by omega
  subst hje
  first
    | exact ⟨j,decide (cmpS fs[j].pl.path path = 0),rfl,hM.low,fun h => ⟨hi,KY.1 (odt h)⟩,fun _ => ⟨hj,hlo,hhi⟩⟩
    | exact ⟨j,false,rfl,hM.low,(fun h => by cases h),fun _ => ⟨hj,hlo,hhi⟩⟩
set_option maxHeartbeats 2000000 in
theorem MW (w : World) (A : Option Addr) (c : Nat) (fs : List FileC) (hR : TreeR w 0 A c fs) (v : VTree (fpl fs)) (path : ByteArray) : Calls Tryz.prog 69 #[.slice A fs.length c, .string path] w fun e w' => ∃ (k : Nat) (b : Bool), e = .returned (.tuple #[.int .i64 (k : Int), .bool b]) ∧ Below w.heap.size w w' ∧ (b = true → ∃ h : k < fs.length, fs[k].pl.path = path) ∧ (b = false → k ≤ fs.length ∧ (∀ m (h : m < fs.length), m < k → ltS fs[m].pl.path path) ∧ (∀ m (h : m < fs.length), k ≤ m → ¬ ltS fs[m].pl.path path)) := by
 refine Kz Tryz.func69 U Tryz.ntmps69 (leb U) ?_
 refine Jb [(0,.slice _ _ _),(1,.string _)] ⟨U,U,O⟩ fun σ => Jg fun N1 hN1 => Jk (Jd (Jh U) U U U (Jd (Ji U) U U U (Ja (hN1 _ _ (Jb [(0,.slice _ _ _),(1,.string _)] ⟨U,U,O⟩ fun σ => Jg fun N2 hN2 => Jk (Jd (Kl U) U U U (Jd (Ku U) U U U ?_)))))))
 refine My (fun v T' => T' = [] ∧ ∃ (k : Nat) (b : Bool),v = .tuple #[.int .i64 (k : Int),.bool b] ∧ (b = true → ∃ h : k < fs.length,fs[k].pl.path = path) ∧ (b = false → k ≤ fs.length ∧ (∀ m (h : m < fs.length),m < k → ltS fs[m].pl.path path) ∧ (∀ m (h : m < fs.length),k ≤ m → ¬ ltS fs[m].pl.path path))) (Kb (vs := [.slice _ _ _,.string _,_]) Tryz.func99 U (by kernel_rfl) U) (fun w hM => (bsf2_any w A c fs (hR.base hM) v path).mono fun _ _ ⟨k,b,h1,h2,h3,h4⟩ => ⟨_,[],h1,⟨U,k,b,U,h3,h4⟩,(Mem.start w).call h2⟩) U U U ?_
 rintro _ _ ⟨rfl,k,b,rfl,hf1,hf2⟩
 refine Jd (Mg U U) U U U (Jd (Mi U U) U U U (Jd (Jh U) U U U (Jd (Ji U) U U U (Ja (hN2 _ _ (Jb [(4,.int _ _),(5,.bool _)] ⟨U,U,O⟩ fun σ => ?_))))))
 refine Ke fun w1 hM => ?_
 refine ⟨_,res2 rfl (rt (v := .int _ _) rfl) (rt (v := .bool _) rfl),?_⟩
 exact ⟨k,b,rfl,hM.low,hf1,hf2⟩
set_option maxHeartbeats 16000000 in
theorem tchk_any (w : World) (x : ChgC) (hx : ChgR w 0 x) : Calls Tryz.prog 88 #[.agg #[.int .i64 x.kind, .string x.path, .string x.dest, .slice x.LA x.lines.length x.lc, .slice x.PA x.hs.length x.pc]] w fun e w' => ∃ code : Int, e = .returned (.int .i64 code) ∧ Below w.heap.size w w' ∧ (code = 0 → COk x) := by
 refine Kz Tryz.func88 U Tryz.ntmps88 (leb U) ?_
 refine Jb [(0,.agg #[_,_,_,_,_])] ⟨U,O⟩ fun σ => Jg fun N1 hN1 => Jk ?_
 refine Mt (v := .agg #[_,_,_,_,_]) (cs := #[_,_,_,_,_]) U U U (fun b1 hb1 => ?_)
 refine Jd (Jh U) U U U (Ja (hN1 _ _ (gT [box b1 _] U (Jb [(1,.pointer _)] ⟨U,O⟩ fun σ => Jg fun N2 hN2 => ?_))))
 refine Qx (by kernel_rfl) (by kernel_rfl) ?_
 refine gq (Jc KQ U) U U U (gq (Jq Tryz.isAgg3 U (Jm 0 U U)) U U U (gq (Mc U U) U U U (gq (Jc KQ U) U U U (gq (Jq Tryz.isAgg3 U (Jm 0 U U)) U U U (gq (Mc U U) U U U (gq (Ji U) U U U (gq (Ji U) U U U ?_)))))))
 refine Mn ?_
 refine hN2 _ _ (Jb [(1,.pointer _),(3,.bool _),(4,.bool _)] ⟨U,U,U,O⟩ fun σ => Jg fun N3 hN3 => Jb [(1,.pointer _),(3,.bool _),(4,.bool _)] ⟨U,U,U,O⟩ fun σ => ?_)
 refine gcut3 (Lf := [(1,.pointer _)]) (G := Unit) (fun g => (pathOk x.path = true ∧ (x.kind = 3 → pathOk x.dest = true))) (fun g => []) (fun g => []) ⟨U,O⟩ ?_ ?_
 refine Kn (Jg fun N4 hN4 => Jk (Jd (Jc KQ U) U U U (Jd (Jq Tryz.isAgg3 U (Jm 0 U U)) U U U (Jd (Me U U) U U U (Jd (Jn U) U U U ?_)))))
 refine Kh (want := false) U U U U U U (fun hg16 => ?_) (fun hg16 => ?_)
 have hg16d := odf hg16
 refine Jd (Je (Jc KQ U)) U U U (Js U U U U hg16 (Jd (Je (Jq Tryz.isAgg3 U (Jm 0 U U))) U U U (Js U U U U hg16 (Jd (Je (Mh U U)) U U U (Jd (Jp U hg16 U) U U U (Jd (Ji U) U U U (Ja (hN4 _ _ ?_))))))))
 refine Jb [(1,.pointer _),(3,.bool _),(4,.bool _),(12,.bool _)] ⟨U,U,U,U,O⟩ fun σ => ?_
 refine Jt (b := _) U (fun hc12 => ?_) (fun hc12 => ?_)
 replace hc12 := odt hc12
 refine Jg fun N5 hN5 => Jk (Jd (Jh U) U U U (Ja (hN5 _ _ (Jb [(2,.int _ _)] ⟨U,O⟩ fun σ => ?_))))
 refine Ke fun w1 hM => ?_
 refine ⟨_,res1 rfl (rt (v := .int _ _) rfl),?_⟩
 exact ⟨_,rfl,hM.low,fun h => absurd h (by decide)⟩
 replace hc12 := odf hc12
 refine Jg fun N6 hN6 => Jk (Jd (Jc Xy U) U U U (Jd (Jq Tryz.isAgg9 U (Jm 0 U U)) U U U ?_))
 refine Km (Kb (vs := [.string _]) Tryz.func44 U (by kernel_rfl) U) (fun w hM => Wb w _) U U U ?_
 refine Jd (Mp U) U U U (Jd (Jn U) U U U ?_)
 refine Kh (want := false) U U U U U U (fun hg26 => ?_) (fun hg26 => ?_)
 have hpo : pathOk x.path = true := by simpa using hg26
 refine Jd (Je (Jn U)) U U U (Js U U U U hg26 (Jd (Je (Jn U)) U U U ?_))
 refine Kh (want := true) U U U U U U (fun hg28 => ?_) (fun hg28 => ?_)
 have hk3 : x.kind = 3 := odt hg28
 refine Jd (Je (Jc Xe U)) U U U (Js U U U U hg28 (Jd (Je (Jq Tryz.isAgg9 U (Jm 0 U U))) U U U (Js U U U U hg28 ?_)))
 refine Km (Kb (vs := [.string _]) Tryz.func44 U (by kernel_rfl) U) (fun w hM => Wb w _) U U U ?_
 refine Js U U U U hg28 (Jd (Je (Mp U)) U U U (Js U U U U hg26 (Jd (Je (Jo U hg28 U)) U U U (Jd (Jp U hg26 U) U U U (Jd (Ji U) U U U (Ja (hN6 _ _ (Jb [(1,.pointer _),(3,.bool _),(4,.bool _),(21,.bool _)] ⟨U,U,U,U,O⟩ fun σ => ?_))))))))
 refine Jt (b := _) U (fun hc21 => ?_) (fun hc21 => ?_)
 replace hc21 := Ub hc21
 refine Jg fun N7 hN7 => Jk (Jd (Jh U) U U U (Ja (hN7 _ _ (Jb [(2,.int _ _)] ⟨U,O⟩ fun σ => ?_))))
 refine Ke fun w1 hM => ?_
 refine ⟨_,res1 rfl (rt (v := .int _ _) rfl),?_⟩
 exact ⟨_,rfl,hM.low,fun h => absurd h (by decide)⟩
 have hto : x.kind = 3 → pathOk x.dest = true := by first | exact fun h9 => absurd h9 hk3 | (intro _; simpa using hc21)
 refine Jg fun N8 hN8 => Jk (Jd (Jn U) U U U (Jd (Mp U) U U U (Jd (Jn U) U U U ?_)))
 refine Kh (want := true) U U U U U U (fun hg38 => ?_) (fun hg38 => ?_)
 have hg38d := Ub hg38
 refine Jd (Je (Jc Xe U)) U U U (Js U U U U hg38 (Jd (Je (Jq Tryz.isAgg9 U (Jm 0 U U))) U U U (Js U U U U hg38 (Jd (Je (Yd U U)) U U U (Jd (Jo U hg38 U) U U U (Jd (Jn U) U U U ?_))))))
 refine Kh (want := false) U U U U U U (fun hg43 => ?_) (fun hg43 => ?_)
 have hg43d := hg43
 refine Jd (Je (Jn U)) U U U (Js U U U U hg43 (Jd (Je (Jn U)) U U U ?_))
 refine Kh (want := true) U U U U U U (fun hg45 => ?_) (fun hg45 => ?_)
 have hk3 : x.kind = 3 := odt hg45
 refine Jd (Je (Jc Xy U)) U U U (Js U U U U hg45 (Jd (Je (Jq Tryz.isAgg9 U (Jm 0 U U))) U U U (Js U U U U hg45 (Jd (Je (Jc Xe U)) U U U (Js U U U U hg45 (Jd (Je (Jq Tryz.isAgg9 U (Jm 0 U U))) U U U (Js U U U U hg45 ?_)))))))
 refine Km (Kb (vs := [.string _,.string _]) Tryz.func111 U (by kernel_rfl) U) (fun w hM => Wz w _ _ (Nat.le_trans (Qi hpo) (by decide)) (Nat.le_trans (Qi (hto hk3)) (by decide))) U U U ?_
 refine Js U U U U hg43 (Jd (Je (Jo U hg45 U)) U U U (Jd (Jp U hg43 U) U U U (Jd (Ji U) U U U (Ja (hN8 _ _ (Jb [(1,.pointer _),(3,.bool _),(4,.bool _),(35,.bool _)] ⟨U,U,U,U,O⟩ fun σ => ?_))))))
 refine Jt (b := _) U (fun hc35 => ?_) (fun hc35 => ?_)
 refine Jg fun N9 hN9 => Jk (Jd (Jh U) U U U (Ja (hN9 _ _ (Jb [(2,.int _ _)] ⟨U,O⟩ fun σ => ?_))))
 refine Ke fun w1 hM => ?_
 refine ⟨_,res1 rfl (rt (v := .int _ _) rfl),?_⟩
 exact ⟨_,rfl,hM.low,fun h => absurd h (by decide)⟩
 refine Jg fun N10 hN10 => Jk (Jd (Jc Wt U) U U U (Jd (Jq Tryz.isAgg22 U (Jm 0 U U)) U U U (Jd (Ks Tryz.underlying22 U) U U U (Jd (Mh U U) U U U (Jd (Jn U) U U U ?_)))))
 refine Kh (want := true) U U U U U U (fun hg58 => ?_) (fun hg58 => ?_)
 have hg58d := odt hg58
 refine Jd (Je (Jn U)) U U U (Js U U U U hg58 (Jd (Je (Jn U)) U U U ?_))
 refine Kh (want := false) U U U U U U (fun hg60 => ?_) (fun hg60 => ?_)
 have hg60d := odf hg60
 refine Jd (Je (Jn U)) U U U (Js U U U U hg58 (Jd (Je (Jp U hg60 U)) U U U (Jd (Jo U hg58 U) U U U (Jd (Ji U) U U U (Ja (hN10 _ _ (Jb [(1,.pointer _),(3,.bool _),(53,.bool _)] ⟨U,U,U,O⟩ fun σ => ?_)))))))
 refine Jt (b := _) U (fun hc53 => ?_) (fun hc53 => ?_)
 replace hc53 := odt hc53
 refine Jg fun N11 hN11 => Jk (Jd (Jh U) U U U (Ja (hN11 _ _ (Jb [(2,.int _ _)] ⟨U,O⟩ fun σ => ?_))))
 refine Ke fun w1 hM => ?_
 refine ⟨_,res1 rfl (rt (v := .int _ _) rfl),?_⟩
 exact ⟨_,rfl,hM.low,fun h => absurd h (by decide)⟩
 replace hc53 := odf hc53
 refine Jg fun N12 hN12 => Jk (Jd (Jn U) U U U (Jd (Jc Ud U) U U U (Jd (Jc Qg U) U U U (Jd (Jq Tryz.isAgg25 U (Jm 0 U U)) U U U (Jd (Ks Tryz.underlying25 U) U U U (Jd (Mh U U) U U U (Jd (Uz U U Tryz.underlying4) U U U (Jd (Ji U) U U U ?_))))))))
 refine Ja (hN12 _ _ (Jb [(1,.pointer _),(64,.bool _)] ⟨U,U,O⟩ fun σ => ?_))
 refine Jt (b := _) U (fun hc64 => ?_) (fun hc64 => ?_)
 refine Jg fun N13 hN13 => Jk (Jd (Jh U) U U U (Ja (hN13 _ _ (Jb [(2,.int _ _)] ⟨U,O⟩ fun σ => ?_))))
 refine Ke fun w1 hM => ?_
 refine ⟨_,res1 rfl (rt (v := .int _ _) rfl),?_⟩
 exact ⟨_,rfl,hM.low,fun h => absurd h (by decide)⟩
 refine Jw ?_
 refine Ki (()) (⟨hpo,hto⟩) trivial ⟨U,O⟩ ⟨_,U⟩
 have hg60d := odt hg60
 refine Js U U U U hg58 (Jd (Je (Jo U hg60 U)) U U U (Jd (Jo U hg58 U) U U U (Jd (Ji U) U U U (Ja (hN10 _ _ (Jb [(1,.pointer _),(3,.bool _),(53,.bool _)] ⟨U,U,U,O⟩ fun σ => ?_))))))
 refine Jt (b := _) U (fun hc53 => ?_) (fun hc53 => ?_)
 refine Jg fun N14 hN14 => Jk (Jd (Jh U) U U U (Ja (hN14 _ _ (Jb [(2,.int _ _)] ⟨U,O⟩ fun σ => ?_))))
 refine Ke fun w1 hM => ?_
 refine ⟨_,res1 rfl (rt (v := .int _ _) rfl),?_⟩
 exact ⟨_,rfl,hM.low,fun h => absurd h (by decide)⟩
 cases hc53
 have hg58d := odf hg58
 refine Jj U U U U hg58 U U (Mf U U U U U U (Jj U U U U hg58 U U (Jd (Jp U hg58 U) U U U (Jd (Ji U) U U U (Ja (hN10 _ _ (Jb [(1,.pointer _),(3,.bool _),(53,.bool _)] ⟨U,U,U,O⟩ fun σ => ?_)))))))
 refine Jt (b := _) U (fun hc53 => ?_) (fun hc53 => ?_)
 cases hc53
 refine Jg fun N15 hN15 => Jk (Jd (Jn U) U U U (Jd (Jc Ud U) U U U (Jd (Jc Qg U) U U U (Jd (Jq Tryz.isAgg25 U (Jm 0 U U)) U U U (Jd (Ks Tryz.underlying25 U) U U U (Jd (Mh U U) U U U (Jd (Uz U U Tryz.underlying4) U U U (Jd (Ji U) U U U ?_))))))))
 refine Ja (hN15 _ _ (Jb [(1,.pointer _),(64,.bool _)] ⟨U,U,O⟩ fun σ => ?_))
 refine Jt (b := _) U (fun hc64 => ?_) (fun hc64 => ?_)
 refine Jg fun N16 hN16 => Jk (Jd (Jh U) U U U (Ja (hN16 _ _ (Jb [(2,.int _ _)] ⟨U,O⟩ fun σ => ?_))))
 refine Ke fun w1 hM => ?_
 refine ⟨_,res1 rfl (rt (v := .int _ _) rfl),?_⟩
 exact ⟨_,rfl,hM.low,fun h => absurd h (by decide)⟩
 refine Jw ?_
 refine Ki (()) (⟨hpo,hto⟩) trivial ⟨U,O⟩ ⟨_,U⟩
 have hg45d := odf hg45
 refine Jj U U U U hg45 U U (Jj U U U U hg45 U U (Jj U U U U hg45 U U (Jj U U U U hg45 U U (Js U U U U hg43 (Jd (Je (Jp U hg45 U)) U U U (Jd (Jp U hg43 U) U U U (Jd (Ji U) U U U (Ja ?_))))))))
 refine hN8 _ _ (Jb [(1,.pointer _),(3,.bool _),(4,.bool _),(35,.bool _)] ⟨U,U,U,U,O⟩ fun σ => ?_)
 refine Jt (b := _) U (fun hc35 => ?_) (fun hc35 => ?_)
 cases hc35
 refine Jg fun N17 hN17 => Jk (Jd (Jc Wt U) U U U (Jd (Jq Tryz.isAgg22 U (Jm 0 U U)) U U U (Jd (Ks Tryz.underlying22 U) U U U (Jd (Mh U U) U U U (Jd (Jn U) U U U ?_)))))
 refine Kh (want := true) U U U U U U (fun hg58 => ?_) (fun hg58 => ?_)
 have hg58d := odt hg58
 refine Jd (Je (Jn U)) U U U (Js U U U U hg58 (Jd (Je (Jn U)) U U U ?_))
 refine Kh (want := false) U U U U U U (fun hg60 => ?_) (fun hg60 => ?_)
 have hg60d := odf hg60
 refine Jd (Je (Jn U)) U U U (Js U U U U hg58 (Jd (Je (Jp U hg60 U)) U U U (Jd (Jo U hg58 U) U U U (Jd (Ji U) U U U (Ja (hN17 _ _ (Jb [(1,.pointer _),(3,.bool _),(53,.bool _)] ⟨U,U,U,O⟩ fun σ => ?_)))))))
 refine Jt (b := _) U (fun hc53 => ?_) (fun hc53 => ?_)
 replace hc53 := odt hc53
 refine Jg fun N18 hN18 => Jk (Jd (Jh U) U U U (Ja (hN18 _ _ (Jb [(2,.int _ _)] ⟨U,O⟩ fun σ => ?_))))
 refine Ke fun w1 hM => ?_
 refine ⟨_,res1 rfl (rt (v := .int _ _) rfl),?_⟩
 exact ⟨_,rfl,hM.low,fun h => absurd h (by decide)⟩
 replace hc53 := odf hc53
 refine Jg fun N19 hN19 => Jk (Jd (Jn U) U U U (Jd (Jc Ud U) U U U (Jd (Jc Qg U) U U U (Jd (Jq Tryz.isAgg25 U (Jm 0 U U)) U U U (Jd (Ks Tryz.underlying25 U) U U U (Jd (Mh U U) U U U (Jd (Uz U U Tryz.underlying4) U U U (Jd (Ji U) U U U ?_))))))))
 refine Ja (hN19 _ _ (Jb [(1,.pointer _),(64,.bool _)] ⟨U,U,O⟩ fun σ => ?_))
 refine Jt (b := _) U (fun hc64 => ?_) (fun hc64 => ?_)
 refine Jg fun N20 hN20 => Jk (Jd (Jh U) U U U (Ja (hN20 _ _ (Jb [(2,.int _ _)] ⟨U,O⟩ fun σ => ?_))))
 refine Ke fun w1 hM => ?_
 refine ⟨_,res1 rfl (rt (v := .int _ _) rfl),?_⟩
 exact ⟨_,rfl,hM.low,fun h => absurd h (by decide)⟩
 refine Jw ?_
 refine Ki (()) (⟨hpo,hto⟩) trivial ⟨U,O⟩ ⟨_,U⟩
 have hg60d := odt hg60
 refine Js U U U U hg58 (Jd (Je (Jo U hg60 U)) U U U (Jd (Jo U hg58 U) U U U (Jd (Ji U) U U U (Ja (hN17 _ _ (Jb [(1,.pointer _),(3,.bool _),(53,.bool _)] ⟨U,U,U,O⟩ fun σ => ?_))))))
 refine Jt (b := _) U (fun hc53 => ?_) (fun hc53 => ?_)
 refine Jg fun N21 hN21 => Jk (Jd (Jh U) U U U (Ja (hN21 _ _ (Jb [(2,.int _ _)] ⟨U,O⟩ fun σ => ?_))))
 refine Ke fun w1 hM => ?_
 refine ⟨_,res1 rfl (rt (v := .int _ _) rfl),?_⟩
 exact ⟨_,rfl,hM.low,fun h => absurd h (by decide)⟩
 cases hc53
 have hg58d := odf hg58
 refine Jj U U U U hg58 U U (Mf U U U U U U (Jj U U U U hg58 U U (Jd (Jp U hg58 U) U U U (Jd (Ji U) U U U (Ja (hN17 _ _ (Jb [(1,.pointer _),(3,.bool _),(53,.bool _)] ⟨U,U,U,O⟩ fun σ => ?_)))))))
 refine Jt (b := _) U (fun hc53 => ?_) (fun hc53 => ?_)
 cases hc53
 refine Jg fun N22 hN22 => Jk (Jd (Jn U) U U U (Jd (Jc Ud U) U U U (Jd (Jc Qg U) U U U (Jd (Jq Tryz.isAgg25 U (Jm 0 U U)) U U U (Jd (Ks Tryz.underlying25 U) U U U (Jd (Mh U U) U U U (Jd (Uz U U Tryz.underlying4) U U U (Jd (Ji U) U U U ?_))))))))
 refine Ja (hN22 _ _ (Jb [(1,.pointer _),(64,.bool _)] ⟨U,U,O⟩ fun σ => ?_))
 refine Jt (b := _) U (fun hc64 => ?_) (fun hc64 => ?_)
 refine Jg fun N23 hN23 => Jk (Jd (Jh U) U U U (Ja (hN23 _ _ (Jb [(2,.int _ _)] ⟨U,O⟩ fun σ => ?_))))
 refine Ke fun w1 hM => ?_
 refine ⟨_,res1 rfl (rt (v := .int _ _) rfl),?_⟩
 exact ⟨_,rfl,hM.low,fun h => absurd h (by decide)⟩
 refine Jw ?_
 refine Ki (()) (⟨hpo,hto⟩) trivial ⟨U,O⟩ ⟨_,U⟩
 have hg43d := hg43
 refine Jj U U U U hg43 U U (Mf U U U U U U (Mf U U U U U U (Mf U U U U U U (Mf U U U U U U (Mf U U U U U U (Jj U U U U hg43 U U (Jd (Jo U hg43 U) U U U (Jd (Ji U) U U U ?_))))))))
 refine Ja (hN8 _ _ (Jb [(1,.pointer _),(3,.bool _),(4,.bool _),(35,.bool _)] ⟨U,U,U,U,O⟩ fun σ => ?_))
 refine Jt (b := _) U (fun hc35 => ?_) (fun hc35 => ?_)
 refine Jg fun N24 hN24 => Jk (Jd (Jh U) U U U (Ja (hN24 _ _ (Jb [(2,.int _ _)] ⟨U,O⟩ fun σ => ?_))))
 refine Ke fun w1 hM => ?_
 refine ⟨_,res1 rfl (rt (v := .int _ _) rfl),?_⟩
 exact ⟨_,rfl,hM.low,fun h => absurd h (by decide)⟩
 cases hc35
 have hg38d := Ue hg38
 refine Jj U U U U hg38 U U (Jj U U U U hg38 U U (Jd (Jp U hg38 U) U U U (Jd (Jn U) U U U (Js U U U U U (Jd (Je (Jn U)) U U U (Js U U U U U (Jd (Je (Jn U)) U U U ?_)))))))
 refine Kh (want := true) U U U U U U (fun hg45 => ?_) (fun hg45 => ?_)
 have hk3 : x.kind = 3 := odt hg45
 refine Jd (Je (Jc Xy U)) U U U (Js U U U U hg45 (Jd (Je (Jq Tryz.isAgg9 U (Jm 0 U U))) U U U (Js U U U U hg45 (Jd (Je (Jc Xe U)) U U U (Js U U U U hg45 (Jd (Je (Jq Tryz.isAgg9 U (Jm 0 U U))) U U U (Js U U U U hg45 ?_)))))))
 refine Km (Kb (vs := [.string _,.string _]) Tryz.func111 U (by kernel_rfl) U) (fun w hM => Wz w _ _ (Nat.le_trans (Qi hpo) (by decide)) (Nat.le_trans (Qi (hto hk3)) (by decide))) U U U ?_
 refine Js U U U U U (Jd (Je (Jo U hg45 U)) U U U (Jd (Jp U U U) U U U (Jd (Ji U) U U U (Ja (hN8 _ _ (Jb [(1,.pointer _),(3,.bool _),(4,.bool _),(35,.bool _)] ⟨U,U,U,U,O⟩ fun σ => ?_))))))
 refine Jt (b := _) U (fun hc35 => ?_) (fun hc35 => ?_)
 refine Jg fun N25 hN25 => Jk (Jd (Jh U) U U U (Ja (hN25 _ _ (Jb [(2,.int _ _)] ⟨U,O⟩ fun σ => ?_))))
 refine Ke fun w1 hM => ?_
 refine ⟨_,res1 rfl (rt (v := .int _ _) rfl),?_⟩
 exact ⟨_,rfl,hM.low,fun h => absurd h (by decide)⟩
 refine Jg fun N26 hN26 => Jk (Jd (Jc Wt U) U U U (Jd (Jq Tryz.isAgg22 U (Jm 0 U U)) U U U (Jd (Ks Tryz.underlying22 U) U U U (Jd (Mh U U) U U U (Jd (Jn U) U U U ?_)))))
 refine Kh (want := true) U U U U U U (fun hg58 => ?_) (fun hg58 => ?_)
 have hg58d := odt hg58
 refine Jd (Je (Jn U)) U U U (Js U U U U hg58 (Jd (Je (Jn U)) U U U ?_))
 refine Kh (want := false) U U U U U U (fun hg60 => ?_) (fun hg60 => ?_)
 have hg60d := odf hg60
 refine Jd (Je (Jn U)) U U U (Js U U U U hg58 (Jd (Je (Jp U hg60 U)) U U U (Jd (Jo U hg58 U) U U U (Jd (Ji U) U U U (Ja (hN26 _ _ (Jb [(1,.pointer _),(3,.bool _),(53,.bool _)] ⟨U,U,U,O⟩ fun σ => ?_)))))))
 refine Jt (b := _) U (fun hc53 => ?_) (fun hc53 => ?_)
 replace hc53 := odt hc53
 refine Jg fun N27 hN27 => Jk (Jd (Jh U) U U U (Ja (hN27 _ _ (Jb [(2,.int _ _)] ⟨U,O⟩ fun σ => ?_))))
 refine Ke fun w1 hM => ?_
 refine ⟨_,res1 rfl (rt (v := .int _ _) rfl),?_⟩
 exact ⟨_,rfl,hM.low,fun h => absurd h (by decide)⟩
 replace hc53 := odf hc53
 refine Jg fun N28 hN28 => Jk (Jd (Jn U) U U U (Jd (Jc Ud U) U U U (Jd (Jc Qg U) U U U (Jd (Jq Tryz.isAgg25 U (Jm 0 U U)) U U U (Jd (Ks Tryz.underlying25 U) U U U (Jd (Mh U U) U U U (Jd (Uz U U Tryz.underlying4) U U U (Jd (Ji U) U U U ?_))))))))
 refine Ja (hN28 _ _ (Jb [(1,.pointer _),(64,.bool _)] ⟨U,U,O⟩ fun σ => ?_))
 refine Jt (b := _) U (fun hc64 => ?_) (fun hc64 => ?_)
 refine Jg fun N29 hN29 => Jk (Jd (Jh U) U U U (Ja (hN29 _ _ (Jb [(2,.int _ _)] ⟨U,O⟩ fun σ => ?_))))
 refine Ke fun w1 hM => ?_
 refine ⟨_,res1 rfl (rt (v := .int _ _) rfl),?_⟩
 exact ⟨_,rfl,hM.low,fun h => absurd h (by decide)⟩
 refine Jw ?_
 refine Ki (()) (⟨hpo,hto⟩) trivial ⟨U,O⟩ ⟨_,U⟩
 have hg60d := odt hg60
 refine Js U U U U hg58 (Jd (Je (Jo U hg60 U)) U U U (Jd (Jo U hg58 U) U U U (Jd (Ji U) U U U (Ja (hN26 _ _ (Jb [(1,.pointer _),(3,.bool _),(53,.bool _)] ⟨U,U,U,O⟩ fun σ => ?_))))))
 refine Jt (b := _) U (fun hc53 => ?_) (fun hc53 => ?_)
 refine Jg fun N30 hN30 => Jk (Jd (Jh U) U U U (Ja (hN30 _ _ (Jb [(2,.int _ _)] ⟨U,O⟩ fun σ => ?_))))
 refine Ke fun w1 hM => ?_
 refine ⟨_,res1 rfl (rt (v := .int _ _) rfl),?_⟩
 exact ⟨_,rfl,hM.low,fun h => absurd h (by decide)⟩
 cases hc53
 have hg58d := odf hg58
 refine Jj U U U U hg58 U U (Mf U U U U U U (Jj U U U U hg58 U U (Jd (Jp U hg58 U) U U U (Jd (Ji U) U U U (Ja (hN26 _ _ (Jb [(1,.pointer _),(3,.bool _),(53,.bool _)] ⟨U,U,U,O⟩ fun σ => ?_)))))))
 refine Jt (b := _) U (fun hc53 => ?_) (fun hc53 => ?_)
 cases hc53
 refine Jg fun N31 hN31 => Jk (Jd (Jn U) U U U (Jd (Jc Ud U) U U U (Jd (Jc Qg U) U U U (Jd (Jq Tryz.isAgg25 U (Jm 0 U U)) U U U (Jd (Ks Tryz.underlying25 U) U U U (Jd (Mh U U) U U U (Jd (Uz U U Tryz.underlying4) U U U (Jd (Ji U) U U U ?_))))))))
 refine Ja (hN31 _ _ (Jb [(1,.pointer _),(64,.bool _)] ⟨U,U,O⟩ fun σ => ?_))
 refine Jt (b := _) U (fun hc64 => ?_) (fun hc64 => ?_)
 refine Jg fun N32 hN32 => Jk (Jd (Jh U) U U U (Ja (hN32 _ _ (Jb [(2,.int _ _)] ⟨U,O⟩ fun σ => ?_))))
 refine Ke fun w1 hM => ?_
 refine ⟨_,res1 rfl (rt (v := .int _ _) rfl),?_⟩
 exact ⟨_,rfl,hM.low,fun h => absurd h (by decide)⟩
 refine Jw ?_
 refine Ki (()) (⟨hpo,hto⟩) trivial ⟨U,O⟩ ⟨_,U⟩
 have hg45d := odf hg45
 refine Jj U U U U hg45 U U (Jj U U U U hg45 U U (Jj U U U U hg45 U U (Jj U U U U hg45 U U (Js U U U U U (Jd (Je (Jp U hg45 U)) U U U (Jd (Jp U U U) U U U (Jd (Ji U) U U U (Ja ?_))))))))
 refine hN8 _ _ (Jb [(1,.pointer _),(3,.bool _),(4,.bool _),(35,.bool _)] ⟨U,U,U,U,O⟩ fun σ => ?_)
 refine Jt (b := _) U (fun hc35 => ?_) (fun hc35 => ?_)
 cases hc35
 refine Jg fun N33 hN33 => Jk (Jd (Jc Wt U) U U U (Jd (Jq Tryz.isAgg22 U (Jm 0 U U)) U U U (Jd (Ks Tryz.underlying22 U) U U U (Jd (Mh U U) U U U (Jd (Jn U) U U U ?_)))))
 refine Kh (want := true) U U U U U U (fun hg58 => ?_) (fun hg58 => ?_)
 have hg58d := odt hg58
 refine Jd (Je (Jn U)) U U U (Js U U U U hg58 (Jd (Je (Jn U)) U U U ?_))
 refine Kh (want := false) U U U U U U (fun hg60 => ?_) (fun hg60 => ?_)
 have hg60d := odf hg60
 refine Jd (Je (Jn U)) U U U (Js U U U U hg58 (Jd (Je (Jp U hg60 U)) U U U (Jd (Jo U hg58 U) U U U (Jd (Ji U) U U U (Ja (hN33 _ _ (Jb [(1,.pointer _),(3,.bool _),(53,.bool _)] ⟨U,U,U,O⟩ fun σ => ?_)))))))
 refine Jt (b := _) U (fun hc53 => ?_) (fun hc53 => ?_)
 replace hc53 := odt hc53
 refine Jg fun N34 hN34 => Jk (Jd (Jh U) U U U (Ja (hN34 _ _ (Jb [(2,.int _ _)] ⟨U,O⟩ fun σ => ?_))))
 refine Ke fun w1 hM => ?_
 refine ⟨_,res1 rfl (rt (v := .int _ _) rfl),?_⟩
 exact ⟨_,rfl,hM.low,fun h => absurd h (by decide)⟩
 replace hc53 := odf hc53
 refine Jg fun N35 hN35 => Jk (Jd (Jn U) U U U (Jd (Jc Ud U) U U U (Jd (Jc Qg U) U U U (Jd (Jq Tryz.isAgg25 U (Jm 0 U U)) U U U (Jd (Ks Tryz.underlying25 U) U U U (Jd (Mh U U) U U U (Jd (Uz U U Tryz.underlying4) U U U (Jd (Ji U) U U U ?_))))))))
 refine Ja (hN35 _ _ (Jb [(1,.pointer _),(64,.bool _)] ⟨U,U,O⟩ fun σ => ?_))
 refine Jt (b := _) U (fun hc64 => ?_) (fun hc64 => ?_)
 refine Jg fun N36 hN36 => Jk (Jd (Jh U) U U U (Ja (hN36 _ _ (Jb [(2,.int _ _)] ⟨U,O⟩ fun σ => ?_))))
 refine Ke fun w1 hM => ?_
 refine ⟨_,res1 rfl (rt (v := .int _ _) rfl),?_⟩
 exact ⟨_,rfl,hM.low,fun h => absurd h (by decide)⟩
 refine Jw ?_
 refine Ki (()) (⟨hpo,hto⟩) trivial ⟨U,O⟩ ⟨_,U⟩
 have hg60d := odt hg60
 refine Js U U U U hg58 (Jd (Je (Jo U hg60 U)) U U U (Jd (Jo U hg58 U) U U U (Jd (Ji U) U U U (Ja (hN33 _ _ (Jb [(1,.pointer _),(3,.bool _),(53,.bool _)] ⟨U,U,U,O⟩ fun σ => ?_))))))
 refine Jt (b := _) U (fun hc53 => ?_) (fun hc53 => ?_)
 refine Jg fun N37 hN37 => Jk (Jd (Jh U) U U U (Ja (hN37 _ _ (Jb [(2,.int _ _)] ⟨U,O⟩ fun σ => ?_))))
 refine Ke fun w1 hM => ?_
 refine ⟨_,res1 rfl (rt (v := .int _ _) rfl),?_⟩
 exact ⟨_,rfl,hM.low,fun h => absurd h (by decide)⟩
 cases hc53
 have hg58d := odf hg58
 refine Jj U U U U hg58 U U (Mf U U U U U U (Jj U U U U hg58 U U (Jd (Jp U hg58 U) U U U (Jd (Ji U) U U U (Ja (hN33 _ _ (Jb [(1,.pointer _),(3,.bool _),(53,.bool _)] ⟨U,U,U,O⟩ fun σ => ?_)))))))
 refine Jt (b := _) U (fun hc53 => ?_) (fun hc53 => ?_)
 cases hc53
 refine Jg fun N38 hN38 => Jk (Jd (Jn U) U U U (Jd (Jc Ud U) U U U (Jd (Jc Qg U) U U U (Jd (Jq Tryz.isAgg25 U (Jm 0 U U)) U U U (Jd (Ks Tryz.underlying25 U) U U U (Jd (Mh U U) U U U (Jd (Uz U U Tryz.underlying4) U U U (Jd (Ji U) U U U ?_))))))))
 refine Ja (hN38 _ _ (Jb [(1,.pointer _),(64,.bool _)] ⟨U,U,O⟩ fun σ => ?_))
 refine Jt (b := _) U (fun hc64 => ?_) (fun hc64 => ?_)
 refine Jg fun N39 hN39 => Jk (Jd (Jh U) U U U (Ja (hN39 _ _ (Jb [(2,.int _ _)] ⟨U,O⟩ fun σ => ?_))))
 refine Ke fun w1 hM => ?_
 refine ⟨_,res1 rfl (rt (v := .int _ _) rfl),?_⟩
 exact ⟨_,rfl,hM.low,fun h => absurd h (by decide)⟩
 refine Jw ?_
 refine Ki (()) (⟨hpo,hto⟩) trivial ⟨U,O⟩ ⟨_,U⟩
 have hk3 : ¬ x.kind = 3 := odf hg28
 refine Jj U U U U hg28 U U (Jj U U U U hg28 U U (Jj U U U U hg28 U U (Js U U U U hg26 (Jd (Je (Jp U hg28 U)) U U U (Jd (Jp U hg26 U) U U U (Jd (Ji U) U U U (Ja (hN6 _ _ ?_))))))))
 refine Jb [(1,.pointer _),(3,.bool _),(4,.bool _),(21,.bool _)] ⟨U,U,U,U,O⟩ fun σ => ?_
 refine Jt (b := _) U (fun hc21 => ?_) (fun hc21 => ?_)
 cases hc21
 have hto : x.kind = 3 → pathOk x.dest = true := by first | exact fun h9 => absurd h9 hk3 | (intro _; simpa using hc21)
 refine Jg fun N40 hN40 => Jk (Jd (Jn U) U U U (Jd (Mp U) U U U (Jd (Jn U) U U U ?_)))
 refine Kh (want := true) U U U U U U (fun hg38 => ?_) (fun hg38 => ?_)
 have hg38d := Ub hg38
 refine Jd (Je (Jc Xe U)) U U U (Js U U U U hg38 (Jd (Je (Jq Tryz.isAgg9 U (Jm 0 U U))) U U U (Js U U U U hg38 (Jd (Je (Yd U U)) U U U (Jd (Jo U hg38 U) U U U (Jd (Jn U) U U U ?_))))))
 refine Kh (want := false) U U U U U U (fun hg43 => ?_) (fun hg43 => ?_)
 have hg43d := hg43
 refine Jd (Je (Jn U)) U U U (Js U U U U hg43 (Jd (Je (Jn U)) U U U ?_))
 refine Kh (want := true) U U U U U U (fun hg45 => ?_) (fun hg45 => ?_)
 have hk3 : x.kind = 3 := odt hg45
 refine Jd (Je (Jc Xy U)) U U U (Js U U U U hg45 (Jd (Je (Jq Tryz.isAgg9 U (Jm 0 U U))) U U U (Js U U U U hg45 (Jd (Je (Jc Xe U)) U U U (Js U U U U hg45 (Jd (Je (Jq Tryz.isAgg9 U (Jm 0 U U))) U U U (Js U U U U hg45 ?_)))))))
 refine Km (Kb (vs := [.string _,.string _]) Tryz.func111 U (by kernel_rfl) U) (fun w hM => Wz w _ _ (Nat.le_trans (Qi hpo) (by decide)) (Nat.le_trans (Qi (hto hk3)) (by decide))) U U U ?_
 refine Js U U U U hg43 (Jd (Je (Jo U hg45 U)) U U U (Jd (Jp U hg43 U) U U U (Jd (Ji U) U U U (Ja (hN40 _ _ (Jb [(1,.pointer _),(3,.bool _),(4,.bool _),(35,.bool _)] ⟨U,U,U,U,O⟩ fun σ => ?_))))))
 refine Jt (b := _) U (fun hc35 => ?_) (fun hc35 => ?_)
 refine Jg fun N41 hN41 => Jk (Jd (Jh U) U U U (Ja (hN41 _ _ (Jb [(2,.int _ _)] ⟨U,O⟩ fun σ => ?_))))
 refine Ke fun w1 hM => ?_
 refine ⟨_,res1 rfl (rt (v := .int _ _) rfl),?_⟩
 exact ⟨_,rfl,hM.low,fun h => absurd h (by decide)⟩
 refine Jg fun N42 hN42 => Jk (Jd (Jc Wt U) U U U (Jd (Jq Tryz.isAgg22 U (Jm 0 U U)) U U U (Jd (Ks Tryz.underlying22 U) U U U (Jd (Mh U U) U U U (Jd (Jn U) U U U ?_)))))
 refine Kh (want := true) U U U U U U (fun hg58 => ?_) (fun hg58 => ?_)
 have hg58d := odt hg58
 refine Jd (Je (Jn U)) U U U (Js U U U U hg58 (Jd (Je (Jn U)) U U U ?_))
 refine Kh (want := false) U U U U U U (fun hg60 => ?_) (fun hg60 => ?_)
 have hg60d := odf hg60
 refine Jd (Je (Jn U)) U U U (Js U U U U hg58 (Jd (Je (Jp U hg60 U)) U U U (Jd (Jo U hg58 U) U U U (Jd (Ji U) U U U (Ja (hN42 _ _ (Jb [(1,.pointer _),(3,.bool _),(53,.bool _)] ⟨U,U,U,O⟩ fun σ => ?_)))))))
 refine Jt (b := _) U (fun hc53 => ?_) (fun hc53 => ?_)
 replace hc53 := odt hc53
 refine Jg fun N43 hN43 => Jk (Jd (Jh U) U U U (Ja (hN43 _ _ (Jb [(2,.int _ _)] ⟨U,O⟩ fun σ => ?_))))
 refine Ke fun w1 hM => ?_
 refine ⟨_,res1 rfl (rt (v := .int _ _) rfl),?_⟩
 exact ⟨_,rfl,hM.low,fun h => absurd h (by decide)⟩
 replace hc53 := odf hc53
 refine Jg fun N44 hN44 => Jk (Jd (Jn U) U U U (Jd (Jc Ud U) U U U (Jd (Jc Qg U) U U U (Jd (Jq Tryz.isAgg25 U (Jm 0 U U)) U U U (Jd (Ks Tryz.underlying25 U) U U U (Jd (Mh U U) U U U (Jd (Uz U U Tryz.underlying4) U U U (Jd (Ji U) U U U ?_))))))))
 refine Ja (hN44 _ _ (Jb [(1,.pointer _),(64,.bool _)] ⟨U,U,O⟩ fun σ => ?_))
 refine Jt (b := _) U (fun hc64 => ?_) (fun hc64 => ?_)
 refine Jg fun N45 hN45 => Jk (Jd (Jh U) U U U (Ja (hN45 _ _ (Jb [(2,.int _ _)] ⟨U,O⟩ fun σ => ?_))))
 refine Ke fun w1 hM => ?_
 refine ⟨_,res1 rfl (rt (v := .int _ _) rfl),?_⟩
 exact ⟨_,rfl,hM.low,fun h => absurd h (by decide)⟩
 refine Jw ?_
 refine Ki (()) (⟨hpo,hto⟩) trivial ⟨U,O⟩ ⟨_,U⟩
 have hg60d := odt hg60
 refine Js U U U U hg58 (Jd (Je (Jo U hg60 U)) U U U (Jd (Jo U hg58 U) U U U (Jd (Ji U) U U U (Ja (hN42 _ _ (Jb [(1,.pointer _),(3,.bool _),(53,.bool _)] ⟨U,U,U,O⟩ fun σ => ?_))))))
 refine Jt (b := _) U (fun hc53 => ?_) (fun hc53 => ?_)
 refine Jg fun N46 hN46 => Jk (Jd (Jh U) U U U (Ja (hN46 _ _ (Jb [(2,.int _ _)] ⟨U,O⟩ fun σ => ?_))))
 refine Ke fun w1 hM => ?_
 refine ⟨_,res1 rfl (rt (v := .int _ _) rfl),?_⟩
 exact ⟨_,rfl,hM.low,fun h => absurd h (by decide)⟩
 cases hc53
 have hg58d := odf hg58
 refine Jj U U U U hg58 U U (Mf U U U U U U (Jj U U U U hg58 U U (Jd (Jp U hg58 U) U U U (Jd (Ji U) U U U (Ja (hN42 _ _ (Jb [(1,.pointer _),(3,.bool _),(53,.bool _)] ⟨U,U,U,O⟩ fun σ => ?_)))))))
 refine Jt (b := _) U (fun hc53 => ?_) (fun hc53 => ?_)
 cases hc53
 refine Jg fun N47 hN47 => Jk (Jd (Jn U) U U U (Jd (Jc Ud U) U U U (Jd (Jc Qg U) U U U (Jd (Jq Tryz.isAgg25 U (Jm 0 U U)) U U U (Jd (Ks Tryz.underlying25 U) U U U (Jd (Mh U U) U U U (Jd (Uz U U Tryz.underlying4) U U U (Jd (Ji U) U U U ?_))))))))
 refine Ja (hN47 _ _ (Jb [(1,.pointer _),(64,.bool _)] ⟨U,U,O⟩ fun σ => ?_))
 refine Jt (b := _) U (fun hc64 => ?_) (fun hc64 => ?_)
 refine Jg fun N48 hN48 => Jk (Jd (Jh U) U U U (Ja (hN48 _ _ (Jb [(2,.int _ _)] ⟨U,O⟩ fun σ => ?_))))
 refine Ke fun w1 hM => ?_
 refine ⟨_,res1 rfl (rt (v := .int _ _) rfl),?_⟩
 exact ⟨_,rfl,hM.low,fun h => absurd h (by decide)⟩
 refine Jw ?_
 refine Ki (()) (⟨hpo,hto⟩) trivial ⟨U,O⟩ ⟨_,U⟩
 have hg45d := odf hg45
 refine Jj U U U U hg45 U U (Jj U U U U hg45 U U (Jj U U U U hg45 U U (Jj U U U U hg45 U U (Js U U U U hg43 (Jd (Je (Jp U hg45 U)) U U U (Jd (Jp U hg43 U) U U U (Jd (Ji U) U U U (Ja ?_))))))))
 refine hN40 _ _ (Jb [(1,.pointer _),(3,.bool _),(4,.bool _),(35,.bool _)] ⟨U,U,U,U,O⟩ fun σ => ?_)
 refine Jt (b := _) U (fun hc35 => ?_) (fun hc35 => ?_)
 cases hc35
 refine Jg fun N49 hN49 => Jk (Jd (Jc Wt U) U U U (Jd (Jq Tryz.isAgg22 U (Jm 0 U U)) U U U (Jd (Ks Tryz.underlying22 U) U U U (Jd (Mh U U) U U U (Jd (Jn U) U U U ?_)))))
 refine Kh (want := true) U U U U U U (fun hg58 => ?_) (fun hg58 => ?_)
 have hg58d := odt hg58
 refine Jd (Je (Jn U)) U U U (Js U U U U hg58 (Jd (Je (Jn U)) U U U ?_))
 refine Kh (want := false) U U U U U U (fun hg60 => ?_) (fun hg60 => ?_)
 have hg60d := odf hg60
 refine Jd (Je (Jn U)) U U U (Js U U U U hg58 (Jd (Je (Jp U hg60 U)) U U U (Jd (Jo U hg58 U) U U U (Jd (Ji U) U U U (Ja (hN49 _ _ (Jb [(1,.pointer _),(3,.bool _),(53,.bool _)] ⟨U,U,U,O⟩ fun σ => ?_)))))))
 refine Jt (b := _) U (fun hc53 => ?_) (fun hc53 => ?_)
 replace hc53 := odt hc53
 refine Jg fun N50 hN50 => Jk (Jd (Jh U) U U U (Ja (hN50 _ _ (Jb [(2,.int _ _)] ⟨U,O⟩ fun σ => ?_))))
 refine Ke fun w1 hM => ?_
 refine ⟨_,res1 rfl (rt (v := .int _ _) rfl),?_⟩
 exact ⟨_,rfl,hM.low,fun h => absurd h (by decide)⟩
 replace hc53 := odf hc53
 refine Jg fun N51 hN51 => Jk (Jd (Jn U) U U U (Jd (Jc Ud U) U U U (Jd (Jc Qg U) U U U (Jd (Jq Tryz.isAgg25 U (Jm 0 U U)) U U U (Jd (Ks Tryz.underlying25 U) U U U (Jd (Mh U U) U U U (Jd (Uz U U Tryz.underlying4) U U U (Jd (Ji U) U U U ?_))))))))
 refine Ja (hN51 _ _ (Jb [(1,.pointer _),(64,.bool _)] ⟨U,U,O⟩ fun σ => ?_))
 refine Jt (b := _) U (fun hc64 => ?_) (fun hc64 => ?_)
 refine Jg fun N52 hN52 => Jk (Jd (Jh U) U U U (Ja (hN52 _ _ (Jb [(2,.int _ _)] ⟨U,O⟩ fun σ => ?_))))
 refine Ke fun w1 hM => ?_
 refine ⟨_,res1 rfl (rt (v := .int _ _) rfl),?_⟩
 exact ⟨_,rfl,hM.low,fun h => absurd h (by decide)⟩
 refine Jw ?_
 refine Ki (()) (⟨hpo,hto⟩) trivial ⟨U,O⟩ ⟨_,U⟩
 have hg60d := odt hg60
 refine Js U U U U hg58 (Jd (Je (Jo U hg60 U)) U U U (Jd (Jo U hg58 U) U U U (Jd (Ji U) U U U (Ja (hN49 _ _ (Jb [(1,.pointer _),(3,.bool _),(53,.bool _)] ⟨U,U,U,O⟩ fun σ => ?_))))))
 refine Jt (b := _) U (fun hc53 => ?_) (fun hc53 => ?_)
 refine Jg fun N53 hN53 => Jk (Jd (Jh U) U U U (Ja (hN53 _ _ (Jb [(2,.int _ _)] ⟨U,O⟩ fun σ => ?_))))
 refine Ke fun w1 hM => ?_
 refine ⟨_,res1 rfl (rt (v := .int _ _) rfl),?_⟩
 exact ⟨_,rfl,hM.low,fun h => absurd h (by decide)⟩
 cases hc53
 have hg58d := odf hg58
 refine Jj U U U U hg58 U U (Mf U U U U U U (Jj U U U U hg58 U U (Jd (Jp U hg58 U) U U U (Jd (Ji U) U U U (Ja (hN49 _ _ (Jb [(1,.pointer _),(3,.bool _),(53,.bool _)] ⟨U,U,U,O⟩ fun σ => ?_)))))))
 refine Jt (b := _) U (fun hc53 => ?_) (fun hc53 => ?_)
 cases hc53
 refine Jg fun N54 hN54 => Jk (Jd (Jn U) U U U (Jd (Jc Ud U) U U U (Jd (Jc Qg U) U U U (Jd (Jq Tryz.isAgg25 U (Jm 0 U U)) U U U (Jd (Ks Tryz.underlying25 U) U U U (Jd (Mh U U) U U U (Jd (Uz U U Tryz.underlying4) U U U (Jd (Ji U) U U U ?_))))))))
 refine Ja (hN54 _ _ (Jb [(1,.pointer _),(64,.bool _)] ⟨U,U,O⟩ fun σ => ?_))
 refine Jt (b := _) U (fun hc64 => ?_) (fun hc64 => ?_)
 refine Jg fun N55 hN55 => Jk (Jd (Jh U) U U U (Ja (hN55 _ _ (Jb [(2,.int _ _)] ⟨U,O⟩ fun σ => ?_))))
 refine Ke fun w1 hM => ?_
 refine ⟨_,res1 rfl (rt (v := .int _ _) rfl),?_⟩
 exact ⟨_,rfl,hM.low,fun h => absurd h (by decide)⟩
 refine Jw ?_
 refine Ki (()) (⟨hpo,hto⟩) trivial ⟨U,O⟩ ⟨_,U⟩
 have hg43d := hg43
 refine Jj U U U U hg43 U U (Mf U U U U U U (Mf U U U U U U (Mf U U U U U U (Mf U U U U U U (Mf U U U U U U (Jj U U U U hg43 U U (Jd (Jo U hg43 U) U U U (Jd (Ji U) U U U ?_))))))))
 refine Ja (hN40 _ _ (Jb [(1,.pointer _),(3,.bool _),(4,.bool _),(35,.bool _)] ⟨U,U,U,U,O⟩ fun σ => ?_))
 refine Jt (b := _) U (fun hc35 => ?_) (fun hc35 => ?_)
 refine Jg fun N56 hN56 => Jk (Jd (Jh U) U U U (Ja (hN56 _ _ (Jb [(2,.int _ _)] ⟨U,O⟩ fun σ => ?_))))
 refine Ke fun w1 hM => ?_
 refine ⟨_,res1 rfl (rt (v := .int _ _) rfl),?_⟩
 exact ⟨_,rfl,hM.low,fun h => absurd h (by decide)⟩
 cases hc35
 have hg38d := Ue hg38
 refine Jj U U U U hg38 U U (Jj U U U U hg38 U U (Jd (Jp U hg38 U) U U U (Jd (Jn U) U U U (Js U U U U U (Jd (Je (Jn U)) U U U (Js U U U U U (Jd (Je (Jn U)) U U U ?_)))))))
 refine Kh (want := true) U U U U U U (fun hg45 => ?_) (fun hg45 => ?_)
 have hk3 : x.kind = 3 := odt hg45
 refine Jd (Je (Jc Xy U)) U U U (Js U U U U hg45 (Jd (Je (Jq Tryz.isAgg9 U (Jm 0 U U))) U U U (Js U U U U hg45 (Jd (Je (Jc Xe U)) U U U (Js U U U U hg45 (Jd (Je (Jq Tryz.isAgg9 U (Jm 0 U U))) U U U (Js U U U U hg45 ?_)))))))
 refine Km (Kb (vs := [.string _,.string _]) Tryz.func111 U (by kernel_rfl) U) (fun w hM => Wz w _ _ (Nat.le_trans (Qi hpo) (by decide)) (Nat.le_trans (Qi (hto hk3)) (by decide))) U U U ?_
 refine Js U U U U U (Jd (Je (Jo U hg45 U)) U U U (Jd (Jp U U U) U U U (Jd (Ji U) U U U (Ja (hN40 _ _ (Jb [(1,.pointer _),(3,.bool _),(4,.bool _),(35,.bool _)] ⟨U,U,U,U,O⟩ fun σ => ?_))))))
 refine Jt (b := _) U (fun hc35 => ?_) (fun hc35 => ?_)
 refine Jg fun N57 hN57 => Jk (Jd (Jh U) U U U (Ja (hN57 _ _ (Jb [(2,.int _ _)] ⟨U,O⟩ fun σ => ?_))))
 refine Ke fun w1 hM => ?_
 refine ⟨_,res1 rfl (rt (v := .int _ _) rfl),?_⟩
 exact ⟨_,rfl,hM.low,fun h => absurd h (by decide)⟩
 refine Jg fun N58 hN58 => Jk (Jd (Jc Wt U) U U U (Jd (Jq Tryz.isAgg22 U (Jm 0 U U)) U U U (Jd (Ks Tryz.underlying22 U) U U U (Jd (Mh U U) U U U (Jd (Jn U) U U U ?_)))))
 refine Kh (want := true) U U U U U U (fun hg58 => ?_) (fun hg58 => ?_)
 have hg58d := odt hg58
 refine Jd (Je (Jn U)) U U U (Js U U U U hg58 (Jd (Je (Jn U)) U U U ?_))
 refine Kh (want := false) U U U U U U (fun hg60 => ?_) (fun hg60 => ?_)
 have hg60d := odf hg60
 refine Jd (Je (Jn U)) U U U (Js U U U U hg58 (Jd (Je (Jp U hg60 U)) U U U (Jd (Jo U hg58 U) U U U (Jd (Ji U) U U U (Ja (hN58 _ _ (Jb [(1,.pointer _),(3,.bool _),(53,.bool _)] ⟨U,U,U,O⟩ fun σ => ?_)))))))
 refine Jt (b := _) U (fun hc53 => ?_) (fun hc53 => ?_)
 replace hc53 := odt hc53
 refine Jg fun N59 hN59 => Jk (Jd (Jh U) U U U (Ja (hN59 _ _ (Jb [(2,.int _ _)] ⟨U,O⟩ fun σ => ?_))))
 refine Ke fun w1 hM => ?_
 refine ⟨_,res1 rfl (rt (v := .int _ _) rfl),?_⟩
 exact ⟨_,rfl,hM.low,fun h => absurd h (by decide)⟩
 replace hc53 := odf hc53
 refine Jg fun N60 hN60 => Jk (Jd (Jn U) U U U (Jd (Jc Ud U) U U U (Jd (Jc Qg U) U U U (Jd (Jq Tryz.isAgg25 U (Jm 0 U U)) U U U (Jd (Ks Tryz.underlying25 U) U U U (Jd (Mh U U) U U U (Jd (Uz U U Tryz.underlying4) U U U (Jd (Ji U) U U U ?_))))))))
 refine Ja (hN60 _ _ (Jb [(1,.pointer _),(64,.bool _)] ⟨U,U,O⟩ fun σ => ?_))
 refine Jt (b := _) U (fun hc64 => ?_) (fun hc64 => ?_)
 refine Jg fun N61 hN61 => Jk (Jd (Jh U) U U U (Ja (hN61 _ _ (Jb [(2,.int _ _)] ⟨U,O⟩ fun σ => ?_))))
 refine Ke fun w1 hM => ?_
 refine ⟨_,res1 rfl (rt (v := .int _ _) rfl),?_⟩
 exact ⟨_,rfl,hM.low,fun h => absurd h (by decide)⟩
 refine Jw ?_
 refine Ki (()) (⟨hpo,hto⟩) trivial ⟨U,O⟩ ⟨_,U⟩
 have hg60d := odt hg60
 refine Js U U U U hg58 (Jd (Je (Jo U hg60 U)) U U U (Jd (Jo U hg58 U) U U U (Jd (Ji U) U U U (Ja (hN58 _ _ (Jb [(1,.pointer _),(3,.bool _),(53,.bool _)] ⟨U,U,U,O⟩ fun σ => ?_))))))
 refine Jt (b := _) U (fun hc53 => ?_) (fun hc53 => ?_)
 refine Jg fun N62 hN62 => Jk (Jd (Jh U) U U U (Ja (hN62 _ _ (Jb [(2,.int _ _)] ⟨U,O⟩ fun σ => ?_))))
 refine Ke fun w1 hM => ?_
 refine ⟨_,res1 rfl (rt (v := .int _ _) rfl),?_⟩
 exact ⟨_,rfl,hM.low,fun h => absurd h (by decide)⟩
 cases hc53
 have hg58d := odf hg58
 refine Jj U U U U hg58 U U (Mf U U U U U U (Jj U U U U hg58 U U (Jd (Jp U hg58 U) U U U (Jd (Ji U) U U U (Ja (hN58 _ _ (Jb [(1,.pointer _),(3,.bool _),(53,.bool _)] ⟨U,U,U,O⟩ fun σ => ?_)))))))
 refine Jt (b := _) U (fun hc53 => ?_) (fun hc53 => ?_)
 cases hc53
 refine Jg fun N63 hN63 => Jk (Jd (Jn U) U U U (Jd (Jc Ud U) U U U (Jd (Jc Qg U) U U U (Jd (Jq Tryz.isAgg25 U (Jm 0 U U)) U U U (Jd (Ks Tryz.underlying25 U) U U U (Jd (Mh U U) U U U (Jd (Uz U U Tryz.underlying4) U U U (Jd (Ji U) U U U ?_))))))))
 refine Ja (hN63 _ _ (Jb [(1,.pointer _),(64,.bool _)] ⟨U,U,O⟩ fun σ => ?_))
 refine Jt (b := _) U (fun hc64 => ?_) (fun hc64 => ?_)
 refine Jg fun N64 hN64 => Jk (Jd (Jh U) U U U (Ja (hN64 _ _ (Jb [(2,.int _ _)] ⟨U,O⟩ fun σ => ?_))))
 refine Ke fun w1 hM => ?_
 refine ⟨_,res1 rfl (rt (v := .int _ _) rfl),?_⟩
 exact ⟨_,rfl,hM.low,fun h => absurd h (by decide)⟩
 refine Jw ?_
 refine Ki (()) (⟨hpo,hto⟩) trivial ⟨U,O⟩ ⟨_,U⟩
 have hg45d := odf hg45
 refine Jj U U U U hg45 U U (Jj U U U U hg45 U U (Jj U U U U hg45 U U (Jj U U U U hg45 U U (Js U U U U U (Jd (Je (Jp U hg45 U)) U U U (Jd (Jp U U U) U U U (Jd (Ji U) U U U (Ja ?_))))))))
 refine hN40 _ _ (Jb [(1,.pointer _),(3,.bool _),(4,.bool _),(35,.bool _)] ⟨U,U,U,U,O⟩ fun σ => ?_)
 refine Jt (b := _) U (fun hc35 => ?_) (fun hc35 => ?_)
 cases hc35
 refine Jg fun N65 hN65 => Jk (Jd (Jc Wt U) U U U (Jd (Jq Tryz.isAgg22 U (Jm 0 U U)) U U U (Jd (Ks Tryz.underlying22 U) U U U (Jd (Mh U U) U U U (Jd (Jn U) U U U ?_)))))
 refine Kh (want := true) U U U U U U (fun hg58 => ?_) (fun hg58 => ?_)
 have hg58d := odt hg58
 refine Jd (Je (Jn U)) U U U (Js U U U U hg58 (Jd (Je (Jn U)) U U U ?_))
 refine Kh (want := false) U U U U U U (fun hg60 => ?_) (fun hg60 => ?_)
 have hg60d := odf hg60
 refine Jd (Je (Jn U)) U U U (Js U U U U hg58 (Jd (Je (Jp U hg60 U)) U U U (Jd (Jo U hg58 U) U U U (Jd (Ji U) U U U (Ja (hN65 _ _ (Jb [(1,.pointer _),(3,.bool _),(53,.bool _)] ⟨U,U,U,O⟩ fun σ => ?_)))))))
 refine Jt (b := _) U (fun hc53 => ?_) (fun hc53 => ?_)
 replace hc53 := odt hc53
 refine Jg fun N66 hN66 => Jk (Jd (Jh U) U U U (Ja (hN66 _ _ (Jb [(2,.int _ _)] ⟨U,O⟩ fun σ => ?_))))
 refine Ke fun w1 hM => ?_
 refine ⟨_,res1 rfl (rt (v := .int _ _) rfl),?_⟩
 exact ⟨_,rfl,hM.low,fun h => absurd h (by decide)⟩
 replace hc53 := odf hc53
 refine Jg fun N67 hN67 => Jk (Jd (Jn U) U U U (Jd (Jc Ud U) U U U (Jd (Jc Qg U) U U U (Jd (Jq Tryz.isAgg25 U (Jm 0 U U)) U U U (Jd (Ks Tryz.underlying25 U) U U U (Jd (Mh U U) U U U (Jd (Uz U U Tryz.underlying4) U U U (Jd (Ji U) U U U ?_))))))))
 refine Ja (hN67 _ _ (Jb [(1,.pointer _),(64,.bool _)] ⟨U,U,O⟩ fun σ => ?_))
 refine Jt (b := _) U (fun hc64 => ?_) (fun hc64 => ?_)
 refine Jg fun N68 hN68 => Jk (Jd (Jh U) U U U (Ja (hN68 _ _ (Jb [(2,.int _ _)] ⟨U,O⟩ fun σ => ?_))))
 refine Ke fun w1 hM => ?_
 refine ⟨_,res1 rfl (rt (v := .int _ _) rfl),?_⟩
 exact ⟨_,rfl,hM.low,fun h => absurd h (by decide)⟩
 refine Jw ?_
 refine Ki (()) (⟨hpo,hto⟩) trivial ⟨U,O⟩ ⟨_,U⟩
 have hg60d := odt hg60
 refine Js U U U U hg58 (Jd (Je (Jo U hg60 U)) U U U (Jd (Jo U hg58 U) U U U (Jd (Ji U) U U U (Ja (hN65 _ _ (Jb [(1,.pointer _),(3,.bool _),(53,.bool _)] ⟨U,U,U,O⟩ fun σ => ?_))))))
 refine Jt (b := _) U (fun hc53 => ?_) (fun hc53 => ?_)
 refine Jg fun N69 hN69 => Jk (Jd (Jh U) U U U (Ja (hN69 _ _ (Jb [(2,.int _ _)] ⟨U,O⟩ fun σ => ?_))))
 refine Ke fun w1 hM => ?_
 refine ⟨_,res1 rfl (rt (v := .int _ _) rfl),?_⟩
 exact ⟨_,rfl,hM.low,fun h => absurd h (by decide)⟩
 cases hc53
 have hg58d := odf hg58
 refine Jj U U U U hg58 U U (Mf U U U U U U (Jj U U U U hg58 U U (Jd (Jp U hg58 U) U U U (Jd (Ji U) U U U (Ja (hN65 _ _ (Jb [(1,.pointer _),(3,.bool _),(53,.bool _)] ⟨U,U,U,O⟩ fun σ => ?_)))))))
 refine Jt (b := _) U (fun hc53 => ?_) (fun hc53 => ?_)
 cases hc53
 refine Jg fun N70 hN70 => Jk (Jd (Jn U) U U U (Jd (Jc Ud U) U U U (Jd (Jc Qg U) U U U (Jd (Jq Tryz.isAgg25 U (Jm 0 U U)) U U U (Jd (Ks Tryz.underlying25 U) U U U (Jd (Mh U U) U U U (Jd (Uz U U Tryz.underlying4) U U U (Jd (Ji U) U U U ?_))))))))
 refine Ja (hN70 _ _ (Jb [(1,.pointer _),(64,.bool _)] ⟨U,U,O⟩ fun σ => ?_))
 refine Jt (b := _) U (fun hc64 => ?_) (fun hc64 => ?_)
 refine Jg fun N71 hN71 => Jk (Jd (Jh U) U U U (Ja (hN71 _ _ (Jb [(2,.int _ _)] ⟨U,O⟩ fun σ => ?_))))
 refine Ke fun w1 hM => ?_
 refine ⟨_,res1 rfl (rt (v := .int _ _) rfl),?_⟩
 exact ⟨_,rfl,hM.low,fun h => absurd h (by decide)⟩
 refine Jw ?_
 refine Ki (()) (⟨hpo,hto⟩) trivial ⟨U,O⟩ ⟨_,U⟩
 have hg26d := Ub hg26
 refine Jj U U U U hg26 U U (Mf U U U U U U (Mf U U U U U U (Mf U U U U U U (Mf U U U U U U (Jj U U U U hg26 U U (Jd (Jo U hg26 U) U U U (Jd (Ji U) U U U (Ja ?_))))))))
 refine hN6 _ _ (Jb [(1,.pointer _),(3,.bool _),(4,.bool _),(21,.bool _)] ⟨U,U,U,U,O⟩ fun σ => ?_)
 refine Jt (b := _) U (fun hc21 => ?_) (fun hc21 => ?_)
 refine Jg fun N72 hN72 => Jk (Jd (Jh U) U U U (Ja (hN72 _ _ (Jb [(2,.int _ _)] ⟨U,O⟩ fun σ => ?_))))
 refine Ke fun w1 hM => ?_
 refine ⟨_,res1 rfl (rt (v := .int _ _) rfl),?_⟩
 exact ⟨_,rfl,hM.low,fun h => absurd h (by decide)⟩
 cases hc21
 have hg16d := odt hg16
 refine Jj U U U U hg16 U U (Jj U U U U hg16 U U (Jd (Jo U hg16 U) U U U (Jd (Ji U) U U U (Ja (hN4 _ _ (Jb [(1,.pointer _),(3,.bool _),(4,.bool _),(12,.bool _)] ⟨U,U,U,U,O⟩ fun σ => ?_))))))
 refine Jt (b := _) U (fun hc12 => ?_) (fun hc12 => ?_)
 refine Jg fun N73 hN73 => Jk (Jd (Jh U) U U U (Ja (hN73 _ _ (Jb [(2,.int _ _)] ⟨U,O⟩ fun σ => ?_))))
 refine Ke fun w1 hM => ?_
 refine ⟨_,res1 rfl (rt (v := .int _ _) rfl),?_⟩
 exact ⟨_,rfl,hM.low,fun h => absurd h (by decide)⟩
 cases hc12
 intro g hcut σ
 refine hN3 _ _ ?_
 obtain ⟨hpo,hto⟩ := hcut
 refine Jg fun N74 hN74 => Jg fun N75 hN75 => Jk (Jd (Jc Wt U) U U U (Jd (Jq Tryz.isAgg22 U (Jm 0 U U)) U U U ?_))
 refine Km (Kb (vs := [.slice _ _ _]) Tryz.func58 U (by kernel_rfl) U) (fun w hM => Uh w _ _ _ (hx.rd.base hM) (Nat.le_trans hx.sb.len hx.sb.max)) U U U ?_
 refine Ka (cs := #[.int .i64 0,.int .i64 0]) Tryz.zeroValue33 U U (fun b5 hb5 => ?_)
 refine Jr 1 (v := .agg #[_,_]) (cs' := #[_,_]) U U Tryz.sizeOf33 U U U U (leb U) U U (Ja (hN75 _ _ (gT [box b1 _,box b5 _] U (Jb [(1,.pointer _),(5,.pointer _)] ⟨U,U,O⟩ fun σ => Jg fun N76 hN76 => Jk (Jd (Kk (cs := [_,_]) Tryz.isAgg33 Tryz.sizeOf33 U U (Kf 1 U)) U U U (Jd (Kd (vs := []) (cells := #[.int .i64 0,.int .i64 0]) U Qh) U U U (Jd (Uk (vx := .agg #[_,_]) (vy := .agg #[_,_]) U U (fun w => eg33 _ _ _ _ _ w) (fun w => ne33 _ _ _ _ w)) U U U (Ja ?_))))))))
 refine hN76 _ _ (Jb [(1,.pointer _),(5,.pointer _),(77,.bool _)] ⟨U,U,U,O⟩ fun σ => ?_)
 refine Jt (b := _) U (fun hc77 => ?_) (fun hc77 => ?_)
 replace hc77 := Qe.1 hc77
 refine Jg fun N77 hN77 => Jk (Jd (Jc Uo U) U U U (Jd (Jq Tryz.isAgg3 U (Jm 1 U U)) U U U (Jd (Jh U) U U U (Ja (hN77 _ _ (Jb [(2,.int _ _)] ⟨U,O⟩ fun σ => ?_))))))
 refine Ke fun w1 hM => ?_
 refine ⟨_,res1 rfl (rt (v := .int _ _) rfl),?_⟩
 exact ⟨_,rfl,hM.low,fun h => absurd (Ua h) hc77⟩
 replace hc77 := Qf.1 hc77
 refine Jw (hN74 _ _ (Jb [(1,.pointer _)] ⟨U,O⟩ fun σ => Jg fun N78 hN78 => Jk (Jd (Jc Ud U) U U U ?_)))
 refine Jd (Kk (cs := [.slice x.PA x.hs.length x.pc]) Tryz.isAgg27 Tryz.sizeOf27 U U ((fun j u hu => by have h9 := (List.getElem?_eq_some_iff.1 hu).1; simp at h9; subst h9; exact Jm 0 (off := 4) rfl hu))) U U U ?_
 refine Km (Kb (vs := [.agg #[_]]) Tryz.func62 U (by kernel_rfl) U) (fun w hM => Wq w _ _ _ (PatR.lasts.base hx.pat hM)) U U U ?_
 refine Jd (y_field (cs := #[_,_]) U (fd33_0 _ _)) U U U (Jd (Jh U) U U U (Ja (hN78 _ _ (Jb [(2,.int _ _)] ⟨U,O⟩ fun σ => ?_))))
 refine Ke fun w1 hM => ?_
 refine ⟨_,res1 rfl (rt (v := .int _ _) rfl),?_⟩
 exact ⟨_,rfl,hM.low,fun _ => ⟨hpo,hto,hc77⟩⟩
set_option maxHeartbeats 4000000 in
theorem vpatch_any (w : World) (A : Option Addr) (c : Nat) (l : List ChgC) (hl : Rdl w 0 5 chgCells A l) (hx : ∀ x ∈ l, ChgR w 0 x) (hn : l.length ≤ maxLen) : Calls Tryz.prog 51 #[.agg #[.slice A l.length c]] w fun e w' => ∃ f : Fault, e = .returned (fv f) ∧ Below w.heap.size w w' ∧ (f.code = 0 → f = ⟨0, 0⟩ ∧ l.length ≤ 30 ∧ ∀ x ∈ l, COk x) := by
 have hmx : maxLen = 9223372036854775807 := rfl
 refine Kz Tryz.func51 U Tryz.ntmps51 (leb U) ?_
 refine Jb [(0,.agg #[_])] ⟨U,O⟩ fun σ => Jg fun N1 hN1 => Jk ?_
 refine Mt (v := .agg #[_]) (cs := #[_]) U U U (fun b1 hb1 => ?_)
 refine Ka (cs := #[.int .i64 0,.int .i64 0]) Tryz.zeroValue33 U U (fun b2 hb2 => ?_)
 refine Ja (hN1 _ _ (gT [box b1 _,box b2 _] U (Jb [(1,.pointer _),(2,.pointer _)] ⟨U,U,O⟩ fun σ => Jg fun N2 hN2 => Jg fun N3 hN3 => Jk (Jd (Jc fa81_0 U) U U U (Jd (Jq Tryz.isAgg79 U (Jm 0 U U)) U U U (Jd (Ks Tryz.underlying79 U) U U U (Jd (Mh U U) U U U (Ja ?_))))))))
 refine hN3 _ _ (Jb [(1,.pointer _),(2,.pointer _),(9,.bool _)] ⟨U,U,U,O⟩ fun σ => ?_)
 refine Jt (b := _) U (fun hc9 => ?_) (fun hc9 => ?_)
 replace hc9 := odt hc9
 refine Jg fun N4 hN4 => Jk (Jd (Kd (vs := [(0,_),(1,_)]) (cells := #[_,_]) U (Ma _ _)) U U U (Jr 1 (v := .agg #[_,_]) (cs' := #[_,_]) U U Tryz.sizeOf33 U U U U (leb U) U U (Ja (hN4 _ _ (gT [box b1 _,box b2 _] U (Jb [(2,.pointer _)] ⟨U,O⟩ fun σ => ?_))))))
 refine Ke fun w1 hM => ?_
 refine ⟨_,res1 rfl (rc 1 (cs := [_,_]) hM rfl rfl Tryz.isAgg33 Tryz.sizeOf33 rfl),?_⟩
 exact ⟨⟨2,-1⟩,rfl,hM.low,fun h => absurd h (show ¬ (2 : Int) = 0 by decide)⟩
 replace hc9 := odf hc9
 refine Jw (hN2 _ _ (Jb [(1,.pointer _),(2,.pointer _)] ⟨U,U,O⟩ fun σ => Jg fun N5 hN5 => Jg fun N6 hN6 => Jk (Jd (Jc fa81_0 U) U U U (Jd (Jq Tryz.isAgg79 U (Jm 0 U U)) U U U (Jd (Ks Tryz.underlying79 U) U U U (Jd (Jf U) U U U (Ja (hN6 _ _ ?_))))))))
 refine Jb [(2,.pointer _),(12,.slice _ _ _),(13,.int _ _),(14,.int _ _)] ⟨U,U,U,U,O⟩ fun σ => Kn ?_
 refine Mm [(14,.int _ _)] [(2,.pointer _),(12,.slice _ _ _),(13,.int _ _)] ⟨U,O⟩ ⟨U,U,U,O⟩ fun σ => ?_
 refine Ml (G := Nat) (fun k => k ≤ l.length ∧ ∀ j (h : j < l.length),j < k → COk l[j]) (fun k => l.length - k) (fun k => [(14,.int .i64 (k : Int))]) (fun k => []) (0) ?h0 ⟨U,O⟩ ⟨U,U,U,O⟩ U ?round
 case h0 => exact ⟨Nat.zero_le _,fun _ _ h => absurd h (Nat.not_lt_zero _)⟩
 case round =>
  intro k hφ σ
  obtain ⟨hk,hz⟩ := hφ
  refine Jg fun N7 hN7 => Jk (Jd (Me U U) U U U (Ja (hN7 _ _ (Jb [(2,.pointer _),(12,.slice _ _ _),(13,.int _ _),(14,.int _ _),(15,.bool _)] ⟨U,U,U,U,U,O⟩ fun σ => Jg fun N8 hN8 => ?_))))
  refine Jt (b := _) U (fun hc15 => ?_) (fun hc15 => ?_)
  replace hc15 := odt hc15
  have hk1 : k < l.length := by omega
  obtain ⟨ad,rfl,-,hca⟩ := hl.at_ hk1
  refine Jw (hN8 _ _ (Jb [(2,.pointer _),(12,.slice _ _ _),(13,.int _ _),(14,.int _ _)] ⟨U,U,U,U,O⟩ fun σ => Jg fun N9 hN9 => Kn (Jg fun N10 hN10 => Jk (Jd (Jf U) U U U (Jd (Jz (m := k) Tryz.underlying79 Tryz.sizeOf118 U U (by omega) (by omega) (by omega)) U U U (Jd (Kk (cs := [_,_,_,_,_]) Tryz.isAgg118 Tryz.sizeOf118 U U (Mv hca)) U U U ?_))))))
  refine Ka (cs := #[.int .i64 0,.string .empty,.string .empty,.slice none 0 0,.slice none 0 0]) Tryz.zeroValue118 U U (fun b4 hb4 => ?_)
  refine Jd (Jh U) U U U (Jr 2 (v := .agg #[_,_,_,_,_]) (cs' := #[_,_,_,_,_]) U U Tryz.sizeOf118 U U U U (leb U) U U (Ja (hN10 _ _ (gT [box b1 _,box b2 _,box b4 _] U (Jb [(2,.pointer _),(3,.int _ _),(4,.pointer _),(12,.slice _ _ _),(13,.int _ _),(14,.int _ _)] ⟨U,U,U,U,U,U,O⟩ fun σ => Jg fun N11 hN11 => Jk (Jd (Kk (cs := [_,_,_,_,_]) Tryz.isAgg118 Tryz.sizeOf118 U U (Kf 2 U)) U U U ?_))))))
  refine My (fun v T' => T' = [] ∧ ∃ code : Int,v = .int .i64 code ∧ (code = 0 → COk l[k])) (Kb (vs := [.agg #[_,_,_,_,_]]) Tryz.func88 U (by kernel_rfl) U) (fun w hM => (tchk_any w l[k] (ChgR.lasts.base (hx _ (List.getElem_mem hk1)) hM)).mono fun _ _ ⟨code,h1,h2,h3⟩ => ⟨_,[],h1,⟨U,code,U,h3⟩,(Mem.start w).call h2⟩) U U U ?_
  rintro _ _ ⟨rfl,code,rfl,hco⟩
  refine Jd (Jh U) U U U (Ja (hN11 _ _ (Jb [(2,.pointer _),(3,.int _ _),(5,.int _ _),(12,.slice _ _ _),(13,.int _ _),(14,.int _ _)] ⟨U,U,U,U,U,U,O⟩ fun σ => Jg fun N12 hN12 => Jk (Jd (Jf U) U U U (Jd (Uj U U) U U U (Ja (hN12 _ _ (Jb [(2,.pointer _),(3,.int _ _),(5,.int _ _),(12,.slice _ _ _),(13,.int _ _),(14,.int _ _),(22,.bool _)] ⟨U,U,U,U,U,U,U,O⟩ fun σ => ?_))))))))
  refine Jt (b := _) U (fun hc22 => ?_) (fun hc22 => ?_)
  replace hc22 := odt hc22
  refine Jg fun N13 hN13 => Jk (Jd (Jf U) U U U (Jd (Jf U) U U U (Jd (Kd (vs := [(0,.int _ _),(1,.int _ _)]) (cells := #[_,_]) U (Ma _ _)) U U U (Jr 1 (v := .agg #[_,_]) (cs' := #[_,_]) U U Tryz.sizeOf33 U U U U (leb U) U U (Ja (hN13 _ _ (gT [box b1 _,box b2 _,box b4 _] U (Jb [(2,.pointer _)] ⟨U,O⟩ fun σ => ?_))))))))
  refine Ke fun w1 hM => ?_
  refine ⟨_,res1 rfl (rc 1 (cs := [_,_]) hM rfl rfl Tryz.isAgg33 Tryz.sizeOf33 rfl),?_⟩
  exact ⟨⟨code,k⟩,rfl,hM.low,fun h => absurd h hc22⟩
  replace hc22 := Decidable.not_not.1 (odf hc22)
  refine Jw (hN9 _ _ (Jb [(2,.pointer _),(12,.slice _ _ _),(13,.int _ _),(14,.int _ _)] ⟨U,U,U,U,O⟩ fun σ => Jk (Jd (Kr U U ⟨by omega,by omega⟩) U U U (Jd (Jf U) U U U (Ja ?_)))))
  refine Kt (k + 1) (by omega) (⟨by omega,fun j h hj => by rcases Nat.lt_succ_iff_lt_or_eq.1 hj with h1 | rfl; exact hz j h h1; exact hco (by omega)⟩) ⟨U,O⟩ ⟨U,U,U,O⟩ ⟨_,U⟩
  replace hc15 := odf hc15
  refine Mx ?_
  refine hN5 _ _ (Jb [(2,.pointer _)] ⟨U,O⟩ fun σ => Jg fun N14 hN14 => Jk (Jd (Kd (vs := []) (cells := #[.int .i64 0,.int .i64 0]) U Qh) U U U (Jr 1 (v := .agg #[_,_]) (cs' := #[_,_]) U U Tryz.sizeOf33 U U U U (leb U) U U (Ja (hN14 _ _ (gT [box b1 _,box b2 _] U (Jb [(2,.pointer _)] ⟨U,O⟩ fun σ => ?_)))))))
  refine Ke fun w1 hM => ?_
  refine ⟨_,res1 rfl (rc 1 (cs := [_,_]) hM rfl rfl Tryz.isAgg33 Tryz.sizeOf33 rfl),?_⟩
  exact ⟨⟨0,0⟩,rfl,hM.low,fun _ => ⟨rfl,by omega,fun x hx => by obtain ⟨j,hj,rfl⟩ := List.getElem_of_mem hx; exact hz j hj (by omega)⟩⟩
end Go.Proofs.YtbkameioedmlkaaGreatDoor
