/- Own frame, plain models and walks, part 5 (texts of this claim put together). -/
import Derived.Test.YtbkameioedmlkaaGreatDoorP40d
import Derived.Lib.AppendIntMem
import Derived.Lib.AtoiAllCases
import Derived.Lib.AtoiErrMem
import Derived.Lib.AtoiTie
import Derived.Lib.ItoaLen
import Derived.Stop.IfaceNil
import Derived.Test.YtbkameioedmlkaaGreatDoorChecked
namespace Go.Proofs.YtbkameioedmlkaaGreatDoor
open Go.RowKit Go.Cf
set_option maxRecDepth 10000
theorem fa98_0 (a : Addr) (w : World) : (Instr.fieldAt 98 (.pointer (some a)) 0).run Tryz.prog w = .ok (.pointer (some (a.add 0))) w := by kernel_rfl
theorem fa39_3 (a : Addr) (w : World) : (Instr.fieldAt 39 (.pointer (some a)) 3).run Tryz.prog w = .ok (.pointer (some (a.add 3))) w := by kernel_rfl
theorem fa39_1 (a : Addr) (w : World) : (Instr.fieldAt 39 (.pointer (some a)) 1).run Tryz.prog w = .ok (.pointer (some (a.add 1))) w := by kernel_rfl
theorem bd39_0_1_2 (x1 : Int) (x2 : Int) (x3 : Int) : Tryz.prog.built 39 [(0, .int .i64 x1), (1, .int .i64 x2), (2, .int .i64 x3)] = some #[.int .i64 x1, .int .i64 x2, .int .i64 x3, .bool false, .bool false] := by kernel_rfl
theorem el39 : Elem Tryz.prog 39 5 32 := Xz (z := .agg #[.int .i64 0, .int .i64 0, .int .i64 0, .bool false, .bool false]) (by kernel_rfl) rfl (by decide)
theorem fa39_2 (a : Addr) (w : World) : (Instr.fieldAt 39 (.pointer (some a)) 2).run Tryz.prog w = .ok (.pointer (some (a.add 2))) w := by kernel_rfl
theorem fa39_4 (a : Addr) (w : World) : (Instr.fieldAt 39 (.pointer (some a)) 4).run Tryz.prog w = .ok (.pointer (some (a.add 4))) w := by kernel_rfl
theorem fa39_0 (a : Addr) (w : World) : (Instr.fieldAt 39 (.pointer (some a)) 0).run Tryz.prog w = .ok (.pointer (some (a.add 0))) w := by kernel_rfl
set_option maxHeartbeats 4000000 in
theorem patch_any (w0 w : World) (br tc hc : Nat) (tA hA : Option Addr) (text : List ByteArray) (l : List Thr) (fr : Reg) (hM0 : Mem w0 [box br (.cells #[.slice tA (text).length tc, .slice hA (l).length hc] 98), rowl thrCells w0.heap.size 39 5 (.slice hA l.length hc) (l), fr] w) (htx : ∀ w1, fr.ok w1 → Rdl w1 w0.heap.size 1 strCells tA text) (htb : SB tA text.length tc 16) (A : Option Addr) (c : Nat) (hs : List HunkC) (hp : PatR w0 0 A c hs) (hi : RI (l, text) 100) : Calls Tryz.prog 61 #[.pointer (some ⟨br, 0, none⟩), .agg #[.slice A hs.length c]] w fun e w' => ∃ tA' tc' hA' hc' G, e = .returned (.int .i64 (patchT (l, text) (pls hs)).1) ∧ SB tA' (patchT (l, text) (pls hs)).2.2.length tc' 16 ∧ ((tA' = tA ∧ (patchT (l, text) (pls hs)).2.2 = text) ∨ ∀ w1, (∀ r ∈ G, r.ok w1) → Rdl w1 w0.heap.size 1 strCells tA' (patchT (l, text) (pls hs)).2.2) ∧ Mem w0 (box br (.cells #[.slice tA' ((patchT (l, text) (pls hs)).2.2).length tc', .slice hA' ((patchT (l, text) (pls hs)).2.1).length hc'] 98) :: rowl thrCells w0.heap.size 39 5 (.slice hA' (patchT (l, text) (pls hs)).2.1.length hc') ((patchT (l, text) (pls hs)).2.1) :: fr :: G) w' := by
 have hi1 := hi.lo
 have hi2 := hi.hi
 have hi3 := hi.few
 simp only at hi1 hi2 hi3
 refine gcallsT Tryz.func61 U Tryz.ntmps61 (leb U) hM0 ?_
 refine Jb [(0,.pointer _),(1,.agg #[_])] ⟨U,U,O⟩ fun σ => Jg fun N1 hN1 => Jk ?_
 refine Mt (v := .agg #[_]) (cs := #[_]) U U U (fun b3 hb3 => ?_)
 refine Jd (Jh U) U U U (Ja (hN1 _ _ (gT [box br _,rowl _ _ _ _ _ _,fr,box b3 _] U (Jb [(0,.pointer _),(3,.pointer _)] ⟨U,U,O⟩ fun σ => Jg fun N2 hN2 => ?_))))
 refine Xv [11] (by kernel_rfl) ?_
 refine Jv 0 (TK := [box br _,rowl _ _ _ _ _ _,fr,box b3 _]) U (by kernel_rfl) (by kernel_rfl) (by kernel_rfl) #[false,true,true,true,true,false,false,false,false,true,false,false] (by kernel_rfl) U (Kk (cs := [_]) Tryz.isAgg27 Tryz.sizeOf27 U U (Kf 3 U)) U U U (Kc) (listed' := #[true,false,false,false,false,false,false,false,false,false,false,false]) U ?_
 refine Jv 1 (TK := [box br _,rowl _ _ _ _ _ _,fr,box b3 _]) U (by kernel_rfl) (by kernel_rfl) (by kernel_rfl) #[true,false,false,false,false,false,false,false,false,true,false,false] (by kernel_rfl) U (Ju (v := .pointer _) U) U U U (Kc) (listed' := #[true,true,false,false,false,false,false,false,false,false,false,false]) U ?_
 refine Jv 2 (TK := [box br _,rowl _ _ _ _ _ _,fr,box b3 _]) U (by kernel_rfl) (by kernel_rfl) (by kernel_rfl) #[true,true,false,false,false,false,false,false,false,true,false,false] (by kernel_rfl) U (Jy U) U U U (Kc) (listed' := #[true,true,true,false,false,false,false,false,false,false,false,false]) U ?_
 refine Jv 3 (TK := [box br _,rowl _ _ _ _ _ _,fr,box b3 _]) U (by kernel_rfl) (by kernel_rfl) (by kernel_rfl) #[true,true,true,false,false,false,false,false,false,true,false,false] (by kernel_rfl) U (Jc fa98_0 U) U U U (Kc) (listed' := #[true,true,true,true,false,false,false,false,false,false,false,false]) U ?_
 refine Jv 4 (TK := [box br _,rowl _ _ _ _ _ _,fr,box b3 _]) U (by kernel_rfl) (by kernel_rfl) (by kernel_rfl) #[true,true,true,true,false,false,false,false,false,true,false,false] (by kernel_rfl) U (Jq Tryz.isAgg22 U (Jm 0 U U)) U U U (Kc) (listed' := #[true,true,true,true,true,false,false,false,false,false,false,false]) U ?_
 refine ge_two 5 9 (by kernel_rfl) ?_ ?_
 refine ge_op 5 (k' := 0) (listed' := #[true,true,true,true,true,true,false,false,false,false,false,false]) U U U ?_
 refine My (fun v T' => ∃ lo v1,w0.heap.size ≤ lo ∧ v = .tuple #[v1,fv (applyF (pls hs) text)] ∧ T' = [rowl strCells lo 9 1 v1 (applyR (pls hs) text)]) (Kb (vs := [.agg #[_],.slice _ _ _]) Tryz.func91 U (by kernel_rfl) U) (fun w hM => (apply_any w _ _ hs (PatR.lasts.base hp hM) _ _ text ((htx w (hM.ok _ (List.mem_of_getElem? (i := 2) U))).mono (Nat.zero_le _)) htb).mono fun _ _ ⟨v,T1,h1,h2,h3⟩ => ⟨_,T1,h1,⟨_,v,hM.low.size,U,h2⟩,h3⟩) U U U ?_
 rintro _ _ ⟨lo17,v17,hlo17,rfl,rfl⟩
 refine Ky (fun w hM => Mz (hM.ok _ (List.mem_of_getElem? (i := 4) U))) ?_
 rintro ⟨A17,c17,rfl,hc17,hm17,hn17⟩
 refine Ja ?_
 refine Mo (TK := [box br _,rowl _ _ _ _ _ _,fr,box b3 _]) U (Ko (T' := [box br _,rowl _ _ _ _ _ _,fr,box b3 _]) U) ?_
 refine Jv 6 (TK := [box br _,rowl _ _ _ _ _ _,fr,box b3 _]) U (by kernel_rfl) (by kernel_rfl) (by kernel_rfl) #[true,true,true,true,true,true,false,false,false,true,false,false] (by kernel_rfl) U (Ju (v := .tuple #[.slice A17 _ c17,.agg #[_,_]]) U) U U U (Ko (T' := [box br _,rowl _ _ _ _ _ _,fr,box b3 _]) U) (listed' := #[true,true,true,true,true,true,true,false,false,false,false,false]) U ?_
 refine Jv 7 (TK := [box br _,rowl _ _ _ _ _ _,fr,box b3 _]) U (by kernel_rfl) (by kernel_rfl) (by kernel_rfl) #[true,true,true,true,true,true,true,false,true,true,false,false] (by kernel_rfl) U (Qz U U) U U U (Ko (T' := [box br _,rowl _ _ _ _ _ _,fr,box b3 _]) U) (listed' := #[true,true,true,true,true,true,true,true,false,false,false,false]) U ?_
 refine Jv 8 (TK := [box br _,rowl _ _ _ _ _ _,fr,box b3 _]) U (by kernel_rfl) (by kernel_rfl) (by kernel_rfl) #[true,true,true,true,true,true,true,true,false,true,true,false] (by kernel_rfl) U (Mw (v := .agg #[_,_]) U U) U U U (Ko (T' := [box br _,rowl _ _ _ _ _ _,fr,box b3 _]) U) (listed' := #[true,true,true,true,true,true,true,true,true,false,false,false]) U ?_
 refine Mr 9 (k' := 0) (listed' := #[true,true,true,true,true,true,true,true,true,true,false,false]) (by kernel_rfl) U U U ?_
 refine Ka (cs := #[.int .i64 0,.int .i64 0]) Tryz.zeroValue33 U U (fun b6 hb6 => ?_)
 refine Ja ?_
 refine Mo (TK := [box br _,rowl _ _ _ _ _ _,fr,box b3 _]) U (Ko (T' := [box br _,rowl _ _ _ _ _ _,fr,box b3 _]) U) ?_
 refine Jv 10 (TK := [box br _,rowl _ _ _ _ _ _,fr,box b3 _]) U (by kernel_rfl) (by kernel_rfl) (by kernel_rfl) #[true,true,true,true,true,true,true,true,true,true,false,false] (by kernel_rfl) U (Kq U) U U U (Ko (T' := [box br _,rowl _ _ _ _ _ _,fr,box b3 _]) U) (listed' := #[true,true,true,true,true,true,true,true,true,true,true,false]) U ?_
 refine Mr 11 (k' := 1) (listed' := #[true,true,true,true,true,true,true,true,true,true,true,true]) (by kernel_rfl) U U U ?_
 refine Jr 5 (v := .agg #[_,_]) (cs' := #[_,_]) U U Tryz.sizeOf33 U U U U (leb U) U U (Ja ?_)
 refine Mo (TK := []) U (Qn) ?_
 refine Qd (by kernel_rfl) ?_
 refine hN2 _ _ (gT [box br _,rowl _ _ _ _ _ _,fr,box b3 _,rowl _ _ _ _ _ _,box b6 _] U (Jb [(0,.pointer _),(3,.pointer _),(5,.slice _ _ _),(6,.pointer _)] ⟨U,U,U,U,O⟩ fun σ => Jg fun N3 hN3 => Jg fun N4 hN4 => Jk (Jd (Kk (cs := [_,_]) Tryz.isAgg33 Tryz.sizeOf33 U U (Kf 5 U)) U U U (Jd (Kd (vs := []) (cells := #[.int .i64 0,.int .i64 0]) U Qh) U U U (Jd (Uk (vx := .agg #[_,_]) (vy := .agg #[_,_]) U U (fun w => eg33 _ _ _ _ _ w) (fun w => ne33 _ _ _ _ w)) U U U (Ja (hN4 _ _ (Jb [(0,.pointer _),(3,.pointer _),(5,.slice _ _ _),(6,.pointer _),(22,.bool _)] ⟨U,U,U,U,U,O⟩ fun σ => ?_))))))))
 refine Jt (b := _) U (fun hc22 => ?_) (fun hc22 => ?_)
 replace hc22 := Qe.1 hc22
 have hP : patchT (l,text) (pls hs) = ((applyF (pls hs) text).code,(l,text)) := by rw [patchT,if_pos hc22]
 refine Jg fun N5 hN5 => Jk (Jd (Jc Uo U) U U U (Jd (Jq Tryz.isAgg3 U (Jm 5 U U)) U U U (Jd (Jh U) U U U (Ja (hN5 _ _ (Jb [(4,.int _ _)] ⟨U,O⟩ fun σ => ?_))))))
 refine Ke fun w1 hM => ?_
 refine ⟨_,res1 rfl (rt (v := .int _ _) rfl),?_⟩
 rw [hP]
 exact ⟨tA,tc,hA,hc,_,rfl,htb,.inl ⟨rfl,rfl⟩,hM⟩
 replace hc22 := Qf.1 hc22
 obtain ⟨_,happ,hAR⟩ := Xd (hs := pls hs) (text := text) (by rw [hc22])
 have hv := happ.pv
 have hP : patchT (l,text) (pls hs) = (0,(l.map (followT (pls hs)),applyR (pls hs) text)) := by rw [hAR,patchT,if_neg (by simp [hc22])]
 refine Jw (hN3 _ _ (Jb [(0,.pointer _),(3,.pointer _),(5,.slice _ _ _)] ⟨U,U,U,O⟩ fun σ => Jg fun N6 hN6 => Jk (Jd (Ju (v := .pointer _) U) U U U (Jd (Kl U) U U U (Jd (Jy U) U U U (Jd (Jc fa98_0 U) U U U (Jr 0 (v := .slice _ _ _) (cs' := #[_,_]) U U Tryz.sizeOf22 U U U U (leb U) U U (Ja ?_))))))))
 refine hN6 _ _ (gT [box br _,rowl _ _ _ _ _ _,fr,box b3 _,rowl _ _ _ _ _ _,box b6 _] U (Jb [(0,.pointer _),(3,.pointer _)] ⟨U,U,O⟩ fun σ => Jg fun N7 hN7 => Jg fun N8 hN8 => Jk (Jd (Ju (v := .pointer _) U) U U U (Jd (Jy U) U U U (Jd (Jc Yg U) U U U (Jd (Jq Tryz.isAgg31 U (Jm 0 U U)) U U U (Jd (Ks Tryz.underlying31 U) U U U (Jd (Jf U) U U U ?_))))))))
 refine Ja (hN8 _ _ (Jb [(0,.pointer _),(3,.pointer _),(33,.int _ _),(34,.int _ _)] ⟨U,U,U,U,O⟩ fun σ => Kn ?_))
 refine Mm [(34,.int _ _)] [(0,.pointer _),(3,.pointer _),(33,.int _ _)] ⟨U,O⟩ ⟨U,U,U,O⟩ fun σ => ?_
 refine Ml (G := Nat) (fun k => k ≤ l.length) (fun k => l.length - k) (fun k => [(34,.int .i64 (k : Int))]) (fun k => [(1,rowl thrCells w0.heap.size 39 5 (.slice hA l.length hc) (flK (pls hs) l k))]) (0) ?h0 ⟨U,O⟩ ⟨U,U,U,O⟩ U ?round
 case h0 => exact Nat.zero_le _
 case round =>
  intro k hφ σ
  have hk : k ≤ l.length := hφ
  refine gT [box br _,rowl _ _ _ _ _ _,fr,box b3 _,rowl _ _ _ _ _ _,box b6 _] U (Jg fun N9 hN9 => Jk (Jd (Me U U) U U U (Ja (hN9 _ _ (Jb [(0,.pointer _),(3,.pointer _),(33,.int _ _),(34,.int _ _),(35,.bool _)] ⟨U,U,U,U,U,O⟩ fun σ => Jg fun N10 hN10 => ?_)))))
  refine Jt (b := _) U (fun hc35 => ?_) (fun hc35 => ?_)
  replace hc35 := odt hc35
  have hk1 : k < l.length := by omega
  refine Un (fun w hM => Zt (hM.own 1 U) (by rw [Uy _ _ hk]; omega)) ?_
  rintro ⟨rg,cg,hvg,-,-⟩
  simp only [Value.slice.injEq] at hvg
  obtain ⟨rfl,-,rfl⟩ := hvg
  have hl1 := hi1 _ (List.getElem_mem hk1)
  have hl2 := hi2 _ (List.getElem_mem hk1)
  refine Jw (hN10 _ _ (Jb [(0,.pointer _),(3,.pointer _),(33,.int _ _),(34,.int _ _)] ⟨U,U,U,U,O⟩ fun σ => Jg fun N11 hN11 => Kn (Jg fun N12 hN12 => Jk (Jd (Jf U) U U U (Jd (Jh U) U U U (Ja (hN12 _ _ (Jb [(0,.pointer _),(3,.pointer _),(7,.int _ _),(33,.int _ _),(34,.int _ _)] ⟨U,U,U,U,U,O⟩ fun σ => ?_))))))))
  refine Jg fun N13 hN13 => Jk (Jd (Ju (v := .pointer _) U) U U U (Jd (Jy U) U U U (Jd (Jc Yg U) U U U (Jd (Jq Tryz.isAgg31 U (Jm 0 U U)) U U U (Jd (Jf U) U U U (Jd (Jz (m := k) Tryz.underlying31 Tryz.sizeOf39 U U (by omega) (by omega) (by omega)) U U U (Jd (Kx (v := .pointer _) U) U U U (Ja ?_))))))))
  refine hN13 _ _ (Jb [(0,.pointer _),(3,.pointer _),(8,.pointer _),(33,.int _ _),(34,.int _ _)] ⟨U,U,U,U,U,O⟩ fun σ => Jg fun N14 hN14 => Jg fun N15 hN15 => Jk (Jd (Ju (v := .pointer _) U) U U U (Jd (Jy U) U U U (Jd (Kv fa39_3 U) U U U (Jd (Jq Tryz.isAgg4 U (Mj 1 (f := thrCells) (l := flK (pls hs) l k) U (Uy _ _ hk).symm (fun _ => U) (UK hk1) 3 _ U)) U U U (Ja (hN15 _ _ (Jb [(0,.pointer _),(3,.pointer _),(8,.pointer _),(33,.int _ _),(34,.int _ _),(46,.bool _)] ⟨U,U,U,U,U,U,O⟩ fun σ => ?_))))))))
  refine Jt (b := _) U (fun hc46 => ?_) (fun hc46 => ?_)
  have hft : followT (pls hs) l[k] = l[k] := Xx hc46
  refine Mx ?_
  refine hN11 _ _ (Jb [(0,.pointer _),(3,.pointer _),(33,.int _ _),(34,.int _ _)] ⟨U,U,U,U,O⟩ fun σ => Jk (Jd (Kr U U ⟨by omega,by omega⟩) U U U (Jd (Jf U) U U U (Ja ?_))))
  rw [flK_same hk1 hft]
  refine Kt (k + 1) (by omega) (show k + 1 ≤ _ by omega) ⟨U,O⟩ ⟨U,U,U,O⟩ ⟨_,U⟩
  refine Jw (hN14 _ _ (Jb [(0,.pointer _),(3,.pointer _),(8,.pointer _),(33,.int _ _),(34,.int _ _)] ⟨U,U,U,U,U,O⟩ fun σ => Jg fun N16 hN16 => ?_))
  refine Qx (by kernel_rfl) (by kernel_rfl) ?_
  refine gq (Kk (cs := [_]) Tryz.isAgg27 Tryz.sizeOf27 U U (Kf 3 U)) U U U (gq (Ju (v := .pointer _) U) U U U (gq (Jy U) U U U (gq (Kv fa39_1 U) U U U (gq (Jq Tryz.isAgg3 U (Mj 1 (f := thrCells) (l := flK (pls hs) l k) U (Uy _ _ hk).symm (fun _ => U) (UK hk1) 1 _ U)) U U U ?_))))
  refine Ww (Kb (vs := [.agg #[_],.int _ _]) Tryz.func33 U (by kernel_rfl) U) (fun w hM => place_any w _ _ hs (PatR.lasts.base hp hM) (by simpa using hv.len) hv.each l[k].line (by omega) (by omega)) U U U ?_
  refine gq (Ju (v := .tuple #[.int _ _,.bool _]) U) U U U (gq (Mg U U) U U U (gq (Mi U U) U U U (gq (Jh U) U U U (gq (Ji U) U U U ?_))))
  refine Mn ?_
  refine hN16 _ _ (Jb [(0,.pointer _),(3,.pointer _),(8,.pointer _),(9,.int _ _),(10,.bool _),(33,.int _ _),(34,.int _ _)] ⟨U,U,U,U,U,U,U,O⟩ fun σ => Jg fun N17 hN17 => Jk (Jd (Ju (v := .pointer _) U) U U U (Jd (Jn U) U U U (Jd (Mp U) U U U (Jd (Jy U) U U U (Jd (Kv fa39_3 U) U U U ?_))))))
  refine Mk 1 (f := thrCells) (l := flK (pls hs) l k) (k := k) (o := 3) (v := .bool _) (a := l[k]) (a' := { l[k] with outdated := !(place (pls hs) l[k].line 0).2 }) (fun _ => U) U U U Tryz.sizeOf4 U U U U (Uy _ _ hk).symm (UK hk1) (leb U) U U ?_
  refine Ja (hN17 _ _ (gT [box br _,rowl _ _ _ _ _ _,fr,box b3 _,rowl _ _ _ _ _ _,box b6 _] U (Jb [(0,.pointer _),(3,.pointer _),(8,.pointer _),(9,.int _ _),(10,.bool _),(33,.int _ _),(34,.int _ _)] ⟨U,U,U,U,U,U,U,O⟩ fun σ => Jg fun N18 hN18 => Jk (Jd (Jn U) U U U (Ja (hN18 _ _ (Jb [(0,.pointer _),(3,.pointer _),(8,.pointer _),(9,.int _ _),(33,.int _ _),(34,.int _ _),(61,.bool _)] ⟨U,U,U,U,U,U,U,O⟩ fun σ => ?_)))))))
  refine Jt (b := _) U (fun hc61 => ?_) (fun hc61 => ?_)
  have hft : ({ l[k] with line := (place (pls hs) l[k].line 0).1,outdated := !(place (pls hs) l[k].line 0).2 } : Thr) = followT (pls hs) l[k] := by rw [followT,if_neg (by simp [hc46]),if_pos hc61,hc61]; rfl
  refine Jk (Jd (Ju (v := .pointer _) U) U U U (Jd (Jf U) U U U (Jd (Jy U) U U U (Jd (Kv fa39_1 U) U U U ?_))))
  refine Mk 1 (f := thrCells) (l := (flK (pls hs) l k).set k { l[k] with outdated := !(place (pls hs) l[k].line 0).2 }) (k := k) (o := 1) (v := .int _ _) (a := { l[k] with outdated := !(place (pls hs) l[k].line 0).2 }) (a' := { l[k] with line := (place (pls hs) l[k].line 0).1,outdated := !(place (pls hs) l[k].line 0).2 }) (fun _ => U) U U U Tryz.sizeOf3 U U U U (by rw [List.length_set,Uy _ _ hk]) (by rw [List.getElem?_set_self (by rw [Uy _ _ hk]; exact hk1)]) (leb U) U U ?_
  refine Ja (hN11 _ _ (gT [box br _,rowl _ _ _ _ _ _,fr,box b3 _,rowl _ _ _ _ _ _,box b6 _] U (Jb [(0,.pointer _),(3,.pointer _),(33,.int _ _),(34,.int _ _)] ⟨U,U,U,U,O⟩ fun σ => Jk (Jd (Kr U U ⟨by omega,by omega⟩) U U U (Jd (Jf U) U U U (Ja ?_))))))
  rw [List.set_set,flK_set hk1 hft]
  refine Kt (k + 1) (by omega) (show k + 1 ≤ _ by omega) ⟨U,O⟩ ⟨U,U,U,O⟩ ⟨_,U⟩
  have hft : ({ l[k] with outdated := !(place (pls hs) l[k].line 0).2 } : Thr) = followT (pls hs) l[k] := by rw [followT,if_neg (by simp [hc46]),if_neg (by simp [hc61]),hc61]; rfl
  refine Jw (hN11 _ _ (Jb [(0,.pointer _),(3,.pointer _),(33,.int _ _),(34,.int _ _)] ⟨U,U,U,U,O⟩ fun σ => Jk (Jd (Kr U U ⟨by omega,by omega⟩) U U U (Jd (Jf U) U U U (Ja ?_)))))
  rw [flK_set hk1 hft]
  refine Kt (k + 1) (by omega) (show k + 1 ≤ _ by omega) ⟨U,O⟩ ⟨U,U,U,O⟩ ⟨_,U⟩
  replace hc35 := odf hc35
  rw [flK_all _ _ (by omega : l.length ≤ k)]
  refine Mx ?_
  refine hN7 _ _ (Jb [] trivial fun σ => Jg fun N19 hN19 => Jk (Jd (Jh U) U U U (Ja (hN19 _ _ (Jb [(4,.int _ _)] ⟨U,O⟩ fun σ => ?_)))))
  refine Ke fun w1 hM => ?_
  refine ⟨_,res1 rfl (rt (v := .int _ _) rfl),?_⟩
  rw [hP]
  have e1 : l.length = (l.map (followT (pls hs))).length := by simp
  rw [e1] at hM
  exact ⟨A17,c17,hA,hc,_,rfl,⟨hc17,hm17,hn17,by have := happ.len; rw [← hAR] at this; show (applyR (pls hs) text).length * 16 ≤ _; unfold reachBytes; omega⟩,.inr fun w1 h2 => (Qw (f := strCells) (fun _ => rfl) (h2 _ (List.mem_of_getElem? (i := 1) rfl))).mono hlo17,hM⟩
 refine ge_op 9 (k' := 0) (listed' := #[true,true,true,true,true,false,false,false,false,true,false,false]) U U U ?_
 refine Ka (cs := #[.int .i64 0,.int .i64 0]) Tryz.zeroValue33 U U (fun b6 hb6 => ?_)
 refine Ja ?_
 refine Mo (TK := [box br _,rowl _ _ _ _ _ _,fr,box b3 _]) U (Ko (T' := [box br _,rowl _ _ _ _ _ _,fr,box b3 _]) U) ?_
 refine Mr 5 (k' := 0) (listed' := #[true,true,true,true,true,true,false,false,false,true,false,false]) (by kernel_rfl) U U U ?_
 refine My (fun v T' => ∃ lo v1,w0.heap.size ≤ lo ∧ v = .tuple #[v1,fv (applyF (pls hs) text)] ∧ T' = [rowl strCells lo 9 1 v1 (applyR (pls hs) text)]) (Kb (vs := [.agg #[_],.slice _ _ _]) Tryz.func91 U (by kernel_rfl) U) (fun w hM => (apply_any w _ _ hs (PatR.lasts.base hp hM) _ _ text ((htx w (hM.ok _ (List.mem_of_getElem? (i := 2) U))).mono (Nat.zero_le _)) htb).mono fun _ _ ⟨v,T1,h1,h2,h3⟩ => ⟨_,T1,h1,⟨_,v,hM.low.size,U,h2⟩,h3⟩) U U U ?_
 rintro _ _ ⟨lo17,v17,hlo17,rfl,rfl⟩
 refine Ky (fun w hM => Mz (hM.ok _ (List.mem_of_getElem? (i := 5) U))) ?_
 rintro ⟨A17,c17,rfl,hc17,hm17,hn17⟩
 refine Ja ?_
 refine Mo (TK := [box br _,rowl _ _ _ _ _ _,fr,box b3 _]) U (Ko (T' := [box br _,rowl _ _ _ _ _ _,fr,box b3 _]) U) ?_
 refine Jv 6 (TK := [box br _,rowl _ _ _ _ _ _,fr,box b3 _]) U (by kernel_rfl) (by kernel_rfl) (by kernel_rfl) #[true,true,true,true,true,true,false,false,false,true,false,false] (by kernel_rfl) U (Ju (v := .tuple #[.slice A17 _ c17,.agg #[_,_]]) U) U U U (Ko (T' := [box br _,rowl _ _ _ _ _ _,fr,box b3 _]) U) (listed' := #[true,true,true,true,true,true,true,false,false,true,false,false]) U ?_
 refine Jv 7 (TK := [box br _,rowl _ _ _ _ _ _,fr,box b3 _]) U (by kernel_rfl) (by kernel_rfl) (by kernel_rfl) #[true,true,true,true,true,true,true,false,true,true,false,false] (by kernel_rfl) U (Qz U U) U U U (Ko (T' := [box br _,rowl _ _ _ _ _ _,fr,box b3 _]) U) (listed' := #[true,true,true,true,true,true,true,true,false,true,false,false]) U ?_
 refine Jv 8 (TK := [box br _,rowl _ _ _ _ _ _,fr,box b3 _]) U (by kernel_rfl) (by kernel_rfl) (by kernel_rfl) #[true,true,true,true,true,true,true,true,false,true,true,false] (by kernel_rfl) U (Mw (v := .agg #[_,_]) U U) U U U (Ko (T' := [box br _,rowl _ _ _ _ _ _,fr,box b3 _]) U) (listed' := #[true,true,true,true,true,true,true,true,true,true,false,false]) U ?_
 refine Jv 10 (TK := [box br _,rowl _ _ _ _ _ _,fr,box b3 _]) U (by kernel_rfl) (by kernel_rfl) (by kernel_rfl) #[true,true,true,true,true,true,true,true,true,true,false,false] (by kernel_rfl) U (Kq U) U U U (Ko (T' := [box br _,rowl _ _ _ _ _ _,fr,box b3 _]) U) (listed' := #[true,true,true,true,true,true,true,true,true,true,true,false]) U ?_
 refine Mr 11 (k' := 1) (listed' := #[true,true,true,true,true,true,true,true,true,true,true,true]) (by kernel_rfl) U U U ?_
 refine Jr 4 (v := .agg #[_,_]) (cs' := #[_,_]) U U Tryz.sizeOf33 U U U U (leb U) U U (Ja ?_)
 refine Mo (TK := []) U (Qn) ?_
 refine Qd (by kernel_rfl) ?_
 refine fin_mem _ (weak_perm (List.Perm.cons _ (List.Perm.cons _ (List.Perm.cons _ (List.Perm.cons _ (List.Perm.swap _ _ _)))))) ?_
 refine hN2 _ _ (gT [box br _,rowl _ _ _ _ _ _,fr,box b3 _,rowl _ _ _ _ _ _,box b6 _] U (Jb [(0,.pointer _),(3,.pointer _),(5,.slice _ _ _),(6,.pointer _)] ⟨U,U,U,U,O⟩ fun σ => Jg fun N20 hN20 => Jg fun N21 hN21 => Jk (Jd (Kk (cs := [_,_]) Tryz.isAgg33 Tryz.sizeOf33 U U (Kf 5 U)) U U U (Jd (Kd (vs := []) (cells := #[.int .i64 0,.int .i64 0]) U Qh) U U U (Jd (Uk (vx := .agg #[_,_]) (vy := .agg #[_,_]) U U (fun w => eg33 _ _ _ _ _ w) (fun w => ne33 _ _ _ _ w)) U U U (Ja (hN21 _ _ (Jb [(0,.pointer _),(3,.pointer _),(5,.slice _ _ _),(6,.pointer _),(22,.bool _)] ⟨U,U,U,U,U,O⟩ fun σ => ?_))))))))
 refine Jt (b := _) U (fun hc22 => ?_) (fun hc22 => ?_)
 replace hc22 := Qe.1 hc22
 have hP : patchT (l,text) (pls hs) = ((applyF (pls hs) text).code,(l,text)) := by rw [patchT,if_pos hc22]
 refine Jg fun N22 hN22 => Jk (Jd (Jc Uo U) U U U (Jd (Jq Tryz.isAgg3 U (Jm 5 U U)) U U U (Jd (Jh U) U U U (Ja (hN22 _ _ (Jb [(4,.int _ _)] ⟨U,O⟩ fun σ => ?_))))))
 refine Ke fun w1 hM => ?_
 refine ⟨_,res1 rfl (rt (v := .int _ _) rfl),?_⟩
 rw [hP]
 exact ⟨tA,tc,hA,hc,_,rfl,htb,.inl ⟨rfl,rfl⟩,hM⟩
 replace hc22 := Qf.1 hc22
 obtain ⟨_,happ,hAR⟩ := Xd (hs := pls hs) (text := text) (by rw [hc22])
 have hv := happ.pv
 have hP : patchT (l,text) (pls hs) = (0,(l.map (followT (pls hs)),applyR (pls hs) text)) := by rw [hAR,patchT,if_neg (by simp [hc22])]
 refine Jw (hN20 _ _ (Jb [(0,.pointer _),(3,.pointer _),(5,.slice _ _ _)] ⟨U,U,U,O⟩ fun σ => Jg fun N23 hN23 => Jk (Jd (Ju (v := .pointer _) U) U U U (Jd (Kl U) U U U (Jd (Jy U) U U U (Jd (Jc fa98_0 U) U U U (Jr 0 (v := .slice _ _ _) (cs' := #[_,_]) U U Tryz.sizeOf22 U U U U (leb U) U U (Ja ?_))))))))
 refine hN23 _ _ (gT [box br _,rowl _ _ _ _ _ _,fr,box b3 _,rowl _ _ _ _ _ _,box b6 _] U (Jb [(0,.pointer _),(3,.pointer _)] ⟨U,U,O⟩ fun σ => Jg fun N24 hN24 => Jg fun N25 hN25 => Jk (Jd (Ju (v := .pointer _) U) U U U (Jd (Jy U) U U U (Jd (Jc Yg U) U U U (Jd (Jq Tryz.isAgg31 U (Jm 0 U U)) U U U (Jd (Ks Tryz.underlying31 U) U U U (Jd (Jf U) U U U ?_))))))))
 refine Ja (hN25 _ _ (Jb [(0,.pointer _),(3,.pointer _),(33,.int _ _),(34,.int _ _)] ⟨U,U,U,U,O⟩ fun σ => Kn ?_))
 refine Mm [(34,.int _ _)] [(0,.pointer _),(3,.pointer _),(33,.int _ _)] ⟨U,O⟩ ⟨U,U,U,O⟩ fun σ => ?_
 refine Ml (G := Nat) (fun k => k ≤ l.length) (fun k => l.length - k) (fun k => [(34,.int .i64 (k : Int))]) (fun k => [(1,rowl thrCells w0.heap.size 39 5 (.slice hA l.length hc) (flK (pls hs) l k))]) (0) ?h0 ⟨U,O⟩ ⟨U,U,U,O⟩ U ?round
 case h0 => exact Nat.zero_le _
 case round =>
  intro k hφ σ
  have hk : k ≤ l.length := hφ
  refine gT [box br _,rowl _ _ _ _ _ _,fr,box b3 _,rowl _ _ _ _ _ _,box b6 _] U (Jg fun N26 hN26 => Jk (Jd (Me U U) U U U (Ja (hN26 _ _ (Jb [(0,.pointer _),(3,.pointer _),(33,.int _ _),(34,.int _ _),(35,.bool _)] ⟨U,U,U,U,U,O⟩ fun σ => Jg fun N27 hN27 => ?_)))))
  refine Jt (b := _) U (fun hc35 => ?_) (fun hc35 => ?_)
  replace hc35 := odt hc35
  have hk1 : k < l.length := by omega
  refine Un (fun w hM => Zt (hM.own 1 U) (by rw [Uy _ _ hk]; omega)) ?_
  rintro ⟨rg,cg,hvg,-,-⟩
  simp only [Value.slice.injEq] at hvg
  obtain ⟨rfl,-,rfl⟩ := hvg
  have hl1 := hi1 _ (List.getElem_mem hk1)
  have hl2 := hi2 _ (List.getElem_mem hk1)
  refine Jw (hN27 _ _ (Jb [(0,.pointer _),(3,.pointer _),(33,.int _ _),(34,.int _ _)] ⟨U,U,U,U,O⟩ fun σ => Jg fun N28 hN28 => Kn (Jg fun N29 hN29 => Jk (Jd (Jf U) U U U (Jd (Jh U) U U U (Ja (hN29 _ _ (Jb [(0,.pointer _),(3,.pointer _),(7,.int _ _),(33,.int _ _),(34,.int _ _)] ⟨U,U,U,U,U,O⟩ fun σ => ?_))))))))
  refine Jg fun N30 hN30 => Jk (Jd (Ju (v := .pointer _) U) U U U (Jd (Jy U) U U U (Jd (Jc Yg U) U U U (Jd (Jq Tryz.isAgg31 U (Jm 0 U U)) U U U (Jd (Jf U) U U U (Jd (Jz (m := k) Tryz.underlying31 Tryz.sizeOf39 U U (by omega) (by omega) (by omega)) U U U (Jd (Kx (v := .pointer _) U) U U U (Ja ?_))))))))
  refine hN30 _ _ (Jb [(0,.pointer _),(3,.pointer _),(8,.pointer _),(33,.int _ _),(34,.int _ _)] ⟨U,U,U,U,U,O⟩ fun σ => Jg fun N31 hN31 => Jg fun N32 hN32 => Jk (Jd (Ju (v := .pointer _) U) U U U (Jd (Jy U) U U U (Jd (Kv fa39_3 U) U U U (Jd (Jq Tryz.isAgg4 U (Mj 1 (f := thrCells) (l := flK (pls hs) l k) U (Uy _ _ hk).symm (fun _ => U) (UK hk1) 3 _ U)) U U U (Ja (hN32 _ _ (Jb [(0,.pointer _),(3,.pointer _),(8,.pointer _),(33,.int _ _),(34,.int _ _),(46,.bool _)] ⟨U,U,U,U,U,U,O⟩ fun σ => ?_))))))))
  refine Jt (b := _) U (fun hc46 => ?_) (fun hc46 => ?_)
  have hft : followT (pls hs) l[k] = l[k] := Xx hc46
  refine Mx ?_
  refine hN28 _ _ (Jb [(0,.pointer _),(3,.pointer _),(33,.int _ _),(34,.int _ _)] ⟨U,U,U,U,O⟩ fun σ => Jk (Jd (Kr U U ⟨by omega,by omega⟩) U U U (Jd (Jf U) U U U (Ja ?_))))
  rw [flK_same hk1 hft]
  refine Kt (k + 1) (by omega) (show k + 1 ≤ _ by omega) ⟨U,O⟩ ⟨U,U,U,O⟩ ⟨_,U⟩
  refine Jw (hN31 _ _ (Jb [(0,.pointer _),(3,.pointer _),(8,.pointer _),(33,.int _ _),(34,.int _ _)] ⟨U,U,U,U,U,O⟩ fun σ => Jg fun N33 hN33 => ?_))
  refine Qx (by kernel_rfl) (by kernel_rfl) ?_
  refine gq (Kk (cs := [_]) Tryz.isAgg27 Tryz.sizeOf27 U U (Kf 3 U)) U U U (gq (Ju (v := .pointer _) U) U U U (gq (Jy U) U U U (gq (Kv fa39_1 U) U U U (gq (Jq Tryz.isAgg3 U (Mj 1 (f := thrCells) (l := flK (pls hs) l k) U (Uy _ _ hk).symm (fun _ => U) (UK hk1) 1 _ U)) U U U ?_))))
  refine Ww (Kb (vs := [.agg #[_],.int _ _]) Tryz.func33 U (by kernel_rfl) U) (fun w hM => place_any w _ _ hs (PatR.lasts.base hp hM) (by simpa using hv.len) hv.each l[k].line (by omega) (by omega)) U U U ?_
  refine gq (Ju (v := .tuple #[.int _ _,.bool _]) U) U U U (gq (Mg U U) U U U (gq (Mi U U) U U U (gq (Jh U) U U U (gq (Ji U) U U U ?_))))
  refine Mn ?_
  refine hN33 _ _ (Jb [(0,.pointer _),(3,.pointer _),(8,.pointer _),(9,.int _ _),(10,.bool _),(33,.int _ _),(34,.int _ _)] ⟨U,U,U,U,U,U,U,O⟩ fun σ => Jg fun N34 hN34 => Jk (Jd (Ju (v := .pointer _) U) U U U (Jd (Jn U) U U U (Jd (Mp U) U U U (Jd (Jy U) U U U (Jd (Kv fa39_3 U) U U U ?_))))))
  refine Mk 1 (f := thrCells) (l := flK (pls hs) l k) (k := k) (o := 3) (v := .bool _) (a := l[k]) (a' := { l[k] with outdated := !(place (pls hs) l[k].line 0).2 }) (fun _ => U) U U U Tryz.sizeOf4 U U U U (Uy _ _ hk).symm (UK hk1) (leb U) U U ?_
  refine Ja (hN34 _ _ (gT [box br _,rowl _ _ _ _ _ _,fr,box b3 _,rowl _ _ _ _ _ _,box b6 _] U (Jb [(0,.pointer _),(3,.pointer _),(8,.pointer _),(9,.int _ _),(10,.bool _),(33,.int _ _),(34,.int _ _)] ⟨U,U,U,U,U,U,U,O⟩ fun σ => Jg fun N35 hN35 => Jk (Jd (Jn U) U U U (Ja (hN35 _ _ (Jb [(0,.pointer _),(3,.pointer _),(8,.pointer _),(9,.int _ _),(33,.int _ _),(34,.int _ _),(61,.bool _)] ⟨U,U,U,U,U,U,U,O⟩ fun σ => ?_)))))))
  refine Jt (b := _) U (fun hc61 => ?_) (fun hc61 => ?_)
  have hft : ({ l[k] with line := (place (pls hs) l[k].line 0).1,outdated := !(place (pls hs) l[k].line 0).2 } : Thr) = followT (pls hs) l[k] := by rw [followT,if_neg (by simp [hc46]),if_pos hc61,hc61]; rfl
  refine Jk (Jd (Ju (v := .pointer _) U) U U U (Jd (Jf U) U U U (Jd (Jy U) U U U (Jd (Kv fa39_1 U) U U U ?_))))
  refine Mk 1 (f := thrCells) (l := (flK (pls hs) l k).set k { l[k] with outdated := !(place (pls hs) l[k].line 0).2 }) (k := k) (o := 1) (v := .int _ _) (a := { l[k] with outdated := !(place (pls hs) l[k].line 0).2 }) (a' := { l[k] with line := (place (pls hs) l[k].line 0).1,outdated := !(place (pls hs) l[k].line 0).2 }) (fun _ => U) U U U Tryz.sizeOf3 U U U U (by rw [List.length_set,Uy _ _ hk]) (by rw [List.getElem?_set_self (by rw [Uy _ _ hk]; exact hk1)]) (leb U) U U ?_
  refine Ja (hN28 _ _ (gT [box br _,rowl _ _ _ _ _ _,fr,box b3 _,rowl _ _ _ _ _ _,box b6 _] U (Jb [(0,.pointer _),(3,.pointer _),(33,.int _ _),(34,.int _ _)] ⟨U,U,U,U,O⟩ fun σ => Jk (Jd (Kr U U ⟨by omega,by omega⟩) U U U (Jd (Jf U) U U U (Ja ?_))))))
  rw [List.set_set,flK_set hk1 hft]
  refine Kt (k + 1) (by omega) (show k + 1 ≤ _ by omega) ⟨U,O⟩ ⟨U,U,U,O⟩ ⟨_,U⟩
  have hft : ({ l[k] with outdated := !(place (pls hs) l[k].line 0).2 } : Thr) = followT (pls hs) l[k] := by rw [followT,if_neg (by simp [hc46]),if_neg (by simp [hc61]),hc61]; rfl
  refine Jw (hN28 _ _ (Jb [(0,.pointer _),(3,.pointer _),(33,.int _ _),(34,.int _ _)] ⟨U,U,U,U,O⟩ fun σ => Jk (Jd (Kr U U ⟨by omega,by omega⟩) U U U (Jd (Jf U) U U U (Ja ?_)))))
  rw [flK_set hk1 hft]
  refine Kt (k + 1) (by omega) (show k + 1 ≤ _ by omega) ⟨U,O⟩ ⟨U,U,U,O⟩ ⟨_,U⟩
  replace hc35 := odf hc35
  rw [flK_all _ _ (by omega : l.length ≤ k)]
  refine Mx ?_
  refine hN24 _ _ (Jb [] trivial fun σ => Jg fun N36 hN36 => Jk (Jd (Jh U) U U U (Ja (hN36 _ _ (Jb [(4,.int _ _)] ⟨U,O⟩ fun σ => ?_)))))
  refine Ke fun w1 hM => ?_
  refine ⟨_,res1 rfl (rt (v := .int _ _) rfl),?_⟩
  rw [hP]
  have e1 : l.length = (l.map (followT (pls hs))).length := by simp
  rw [e1] at hM
  exact ⟨A17,c17,hA,hc,_,rfl,⟨hc17,hm17,hn17,by have := happ.len; rw [← hAR] at this; show (applyR (pls hs) text).length * 16 ≤ _; unfold reachBytes; omega⟩,.inr fun w1 h2 => (Qw (f := strCells) (fun _ => rfl) (h2 _ (List.mem_of_getElem? (i := 1) rfl))).mono hlo17,hM⟩
set_option maxHeartbeats 4000000 in
theorem step_any (w0 w : World) (br tc hc : Nat) (tA hA : Option Addr) (text : List ByteArray) (l : List Thr) (fr : Reg) (hM0 : Mem w0 [box br (.cells #[.slice tA (text).length tc, .slice hA (l).length hc] 98), rowl thrCells w0.heap.size 39 5 (.slice hA l.length hc) (l), fr] w) (htx : ∀ w1, fr.ok w1 → Rdl w1 w0.heap.size 1 strCells tA text) (htb : SB tA text.length tc 16) (x : EvC) (hx : EvR w0 0 x) (hi : RI (l, text) 100) : Calls Tryz.prog 30 #[.pointer (some ⟨br, 0, none⟩), evV x] w fun e w' => ∃ tA' tc' hA' hc' G, e = .returned (.int .i64 (stepE (l, text) x.pl).1) ∧ SB tA' (stepE (l, text) x.pl).2.2.length tc' 16 ∧ ((tA' = tA ∧ (stepE (l, text) x.pl).2.2 = text) ∨ ∀ w1, (∀ r ∈ G, r.ok w1) → Rdl w1 w0.heap.size 1 strCells tA' (stepE (l, text) x.pl).2.2) ∧ Mem w0 (box br (.cells #[.slice tA' ((stepE (l, text) x.pl).2.2).length tc', .slice hA' ((stepE (l, text) x.pl).2.1).length hc'] 98) :: rowl thrCells w0.heap.size 39 5 (.slice hA' (stepE (l, text) x.pl).2.1.length hc') ((stepE (l, text) x.pl).2.1) :: fr :: G) w' := by
 have hmx : maxLen = 9223372036854775807 := rfl
 have hi3 := hi.few
 simp only at hi3
 refine gcallsT Tryz.func30 U Tryz.ntmps30 (leb U) hM0 ?_
 refine Jb [(0,.pointer _),(1,.agg #[_,_,_,_,_,_])] ⟨U,U,O⟩ fun σ => Jg fun N1 hN1 => Jk ?_
 refine Mt (v := .agg #[_,_,_,_,_,_]) (cs := #[_,_,_,_,_,_]) U U U (fun b3 hb3 => ?_)
 refine Jd (Jh U) U U U (Ja (hN1 _ _ (gT [box br _,rowl _ _ _ _ _ _,fr,box b3 _] U (Jb [(0,.pointer _),(3,.pointer _)] ⟨U,U,O⟩ fun σ => Jg fun N2 hN2 => Jg fun N3 hN3 => Jk (Jd (Kk (cs := [_,_,_,_,_,_]) Tryz.isAgg29 Tryz.sizeOf29 U U (Kf 3 U)) U U U ?_)))))
 refine Km (Kb (vs := [.agg #[_,_,_,_,_,_]]) Tryz.func59 U (by kernel_rfl) U) (fun w hM => form_any w x) U U U ?_
 refine Jd (Jh U) U U U (Ja (hN3 _ _ (Jb [(0,.pointer _),(3,.pointer _),(5,.int _ _)] ⟨U,U,U,O⟩ fun σ => Jg fun N4 hN4 => Jk (Jd (Jf U) U U U (Jd (Uj U U) U U U (Ja (hN4 _ _ (Jb [(0,.pointer _),(3,.pointer _),(5,.int _ _),(10,.bool _)] ⟨U,U,U,U,O⟩ fun σ => ?_))))))))
 refine Jt (b := _) U (fun hc10 => ?_) (fun hc10 => ?_)
 replace hc10 := odt hc10
 have hS : stepE (l,text) x.pl = (formC x.pl,(l,text)) := by rw [stepE,if_pos hc10]
 refine Jg fun N5 hN5 => Jk (Jd (Jf U) U U U (Jd (Jh U) U U U (Ja (hN5 _ _ (Jb [(4,.int _ _)] ⟨U,O⟩ fun σ => ?_)))))
 refine Ke fun w1 hM => ?_
 refine ⟨_,res1 rfl (rt (v := .int _ _) rfl),?_⟩
 rw [hS]
 exact ⟨tA,tc,_,_,_,rfl,htb,.inl ⟨rfl,rfl⟩,hM⟩
 replace hc10 := Decidable.not_not.1 (odf hc10)
 refine Un (fun w hM => (fun h => by obtain ⟨g,c,hv,_⟩ := Zt (hM.own 1 rfl) h; simp only [Value.slice.injEq] at hv; exact ⟨_,hv.1⟩ : 0 < l.length → ∃ ad,hA = some ad)) ?_
 intro hsome
 refine Jw (hN2 _ _ (Jb [(0,.pointer _),(3,.pointer _)] ⟨U,U,O⟩ fun σ => Jg fun N6 hN6 => Jk (Jd (Ju (v := .pointer _) U) U U U (Jd (Jc fa29_2 U) U U U (Jd (Jq Tryz.isAgg3 U (Jm 3 U U)) U U U ?_)))))
 refine Km (Kb (vs := [.pointer _,.int _ _]) Tryz.func60 U (by kernel_rfl) U) (fun w hM => thread_any w br _ _ _ _ (Jm (w0 := w0) 0 (off := 1) U U w hM) hsome) U U U ?_
 refine Jd (Kx (v := .pointer _) U) U U U (Ja (hN6 _ _ (Jb [(0,.pointer _),(3,.pointer _),(6,.pointer _)] ⟨U,U,U,O⟩ fun σ => Jg fun N7 hN7 => Jg fun N8 hN8 => Jk (Jd (Jc JK U) U U U (Jd (Jq Tryz.isAgg3 U (Jm 3 U U)) U U U (Ja (hN8 _ _ (Jb [(0,.pointer _),(3,.pointer _),(6,.pointer _),(17,.int _ _)] ⟨U,U,U,U,O⟩ fun σ => ?_))))))))
 refine Kn (Jg fun N9 hN9 => Jk (Jd (Mc U U) U U U (Jd (Ji U) U U U (Ja (hN9 _ _ (Jb [(0,.pointer _),(3,.pointer _),(6,.pointer _),(17,.int _ _),(18,.bool _)] ⟨U,U,U,U,U,O⟩ fun σ => ?_))))))
 refine Jt (b := _) U (fun hc18 => ?_) (fun hc18 => ?_)
 replace hc18 := odt hc18
 refine Jg fun N10 hN10 => Jg fun N11 hN11 => ?_
 refine Qx (by kernel_rfl) (by kernel_rfl) ?_
 refine gq (Jc fa29_3 U) U U U (gq (Jq Tryz.isAgg3 U (Jm 3 U U)) U U U (gq (Me U U) U U U (gq (Jn U) U U U ?_)))
 refine Xb (want := false) U U U U U U (fun hg23 => ?_) (fun hg23 => ?_)
 have hg23d := odf hg23
 refine gq (Je (Jc fa29_3 U)) U U U (Kp U U U U hg23 (gq (Je (Jq Tryz.isAgg3 U (Jm 3 U U))) U U U (Kp U U U U hg23 (gq (Je (Ju (v := .pointer _) U)) U U U (Kp U U U U hg23 (gq (Je (Jy U)) U U U (Kp U U U U hg23 (gq (Je (Jc fa98_0 U)) U U U ?_))))))))
 refine Kp U U U U hg23 (gq (Je (Jq Tryz.isAgg22 U (Jm 0 U U))) U U U (Kp U U U U hg23 (gq (Je (Ks Tryz.underlying22 U)) U U U (Kp U U U U hg23 (gq (Je (Wj U U)) U U U (gq (Jp U hg23 U) U U U ?_))))))
 refine Mn ?_
 refine hN11 _ _ (Jb [(0,.pointer _),(3,.pointer _),(32,.bool _)] ⟨U,U,U,O⟩ fun σ => ?_)
 refine Jt (b := _) U (fun hc32 => ?_) (fun hc32 => ?_)
 replace hc32 := odt hc32
 have hS : stepE (l,text) x.pl = (3,(l,text)) := by rw [Yr (e := x.pl) hc10 hc18,if_pos (show x.pl.line < 0 ∨ (text.length : Int) ≤ x.pl.line from by show x.line < 0 ∨ _ ≤ x.line; omega)]
 refine Jg fun N12 hN12 => Jk (Jd (Jh U) U U U (Ja (hN12 _ _ (Jb [(4,.int _ _)] ⟨U,O⟩ fun σ => ?_))))
 refine Ke fun w1 hM => ?_
 refine ⟨_,res1 rfl (rt (v := .int _ _) rfl),?_⟩
 rw [hS]
 exact ⟨tA,tc,_,_,_,rfl,htb,.inl ⟨rfl,rfl⟩,hM⟩
 replace hc32 := odf hc32
 have hL : ¬ (x.pl.line < 0 ∨ (text.length : Int) ≤ x.pl.line) := by show ¬ (x.line < 0 ∨ _ ≤ x.line); omega
 refine Jw (hN10 _ _ (Jb [(0,.pointer _),(3,.pointer _)] ⟨U,U,O⟩ fun σ => Jg fun N13 hN13 => Jg fun N14 hN14 => Jk (Jd (Ju (v := .pointer _) U) U U U (Jd (Jy U) U U U (Jd (Jc Yg U) U U U (Jd (Jq Tryz.isAgg31 U (Jm 0 U U)) U U U (Jd (Ks Tryz.underlying31 U) U U U (Jd (Wj U U) U U U ?_))))))))
 refine Ja (hN14 _ _ (Jb [(0,.pointer _),(3,.pointer _),(38,.bool _)] ⟨U,U,U,O⟩ fun σ => ?_))
 refine Jt (b := _) U (fun hc38 => ?_) (fun hc38 => ?_)
 replace hc38 := odt hc38
 have hS : stepE (l,text) x.pl = (14,(l,text)) := by rw [Yr (e := x.pl) hc10 hc18,if_neg hL,if_pos (show 12 ≤ l.length by omega)]
 refine Jg fun N15 hN15 => Jk (Jd (Jh U) U U U (Ja (hN15 _ _ (Jb [(4,.int _ _)] ⟨U,O⟩ fun σ => ?_))))
 refine Ke fun w1 hM => ?_
 refine ⟨_,res1 rfl (rt (v := .int _ _) rfl),?_⟩
 rw [hS]
 exact ⟨tA,tc,_,_,_,rfl,htb,.inl ⟨rfl,rfl⟩,hM⟩
 replace hc38 := odf hc38
 have hS : stepE (l,text) x.pl = (0,(l ++ [⟨x.user,x.line,1,false,false⟩],text)) := by rw [Yr (e := x.pl) hc10 hc18,if_neg hL,if_neg (show ¬ 12 ≤ l.length by omega)]
 refine Jw (hN13 _ _ (Jb [(0,.pointer _),(3,.pointer _)] ⟨U,U,O⟩ fun σ => Jg fun N16 hN16 => ?_))
 refine Qr [14] [(1,emp)] (by kernel_rfl) ?_
 refine Jv 0 (TK := [box br _,emp,fr,box b3 _]) U (by kernel_rfl) (by kernel_rfl) (by kernel_rfl) #[false,true,true,true,true,true,true,true,true,true,true,true,false,false,false] (by kernel_rfl) U (Ju (v := .pointer _) U) U U U (Kw 1 U) (listed' := #[true,false,false,false,false,false,false,false,false,false,false,false,false,false,false]) U ?_
 refine Jv 1 (TK := [box br _,emp,fr,box b3 _]) U (by kernel_rfl) (by kernel_rfl) (by kernel_rfl) #[true,false,false,false,false,true,true,true,true,true,true,false,false,false,false] (by kernel_rfl) U (Ju (v := .pointer _) U) U U U (Kw 1 U) (listed' := #[true,true,false,false,false,false,false,false,false,false,false,false,false,false,false]) U ?_
 refine Jv 2 (TK := [box br _,emp,fr,box b3 _]) U (by kernel_rfl) (by kernel_rfl) (by kernel_rfl) #[true,true,false,false,false,true,true,true,true,true,true,false,false,false,false] (by kernel_rfl) U (Jy U) U U U (Kw 1 U) (listed' := #[true,true,true,false,false,false,false,false,false,false,false,false,false,false,false]) U ?_
 refine Jv 3 (TK := [box br _,emp,fr,box b3 _]) U (by kernel_rfl) (by kernel_rfl) (by kernel_rfl) #[true,true,true,false,false,true,true,true,true,true,true,false,false,false,false] (by kernel_rfl) U (Jc Yg U) U U U (Kw 1 U) (listed' := #[true,true,true,true,false,false,false,false,false,false,false,false,false,false,false]) U ?_
 refine Jv 4 (TK := [box br _,emp,fr,box b3 _]) U (by kernel_rfl) (by kernel_rfl) (by kernel_rfl) #[true,true,true,true,false,true,true,true,true,true,true,false,false,false,false] (by kernel_rfl) U (Jq Tryz.isAgg31 U (Jm 0 U U)) U U U (Kw 1 U) (listed' := #[true,true,true,true,true,false,false,false,false,false,false,false,false,false,false]) U ?_
 refine Jv 5 (TK := [box br _,emp,fr,box b3 _]) U (by kernel_rfl) (by kernel_rfl) (by kernel_rfl) #[true,true,true,true,true,false,false,true,true,false,false,false,false,false,false] (by kernel_rfl) U (Jc fa29_1 U) U U U (Kw 1 U) (listed' := #[true,true,true,true,true,true,false,false,false,false,false,false,false,false,false]) U ?_
 refine Jv 6 (TK := [box br _,emp,fr,box b3 _]) U (by kernel_rfl) (by kernel_rfl) (by kernel_rfl) #[true,true,true,true,true,true,false,true,true,false,false,false,false,false,false] (by kernel_rfl) U (Jq Tryz.isAgg3 U (Jm 3 U U)) U U U (Kw 1 U) (listed' := #[true,true,true,true,true,true,true,false,false,false,false,false,false,false,false]) U ?_
 refine Jv 7 (TK := [box br _,emp,fr,box b3 _]) U (by kernel_rfl) (by kernel_rfl) (by kernel_rfl) #[true,true,true,true,true,true,true,false,false,false,false,false,false,false,false] (by kernel_rfl) U (Jc fa29_3 U) U U U (Kw 1 U) (listed' := #[true,true,true,true,true,true,true,true,false,false,false,false,false,false,false]) U ?_
 refine Jv 8 (TK := [box br _,emp,fr,box b3 _]) U (by kernel_rfl) (by kernel_rfl) (by kernel_rfl) #[true,true,true,true,true,true,true,true,false,false,false,false,false,false,false] (by kernel_rfl) U (Jq Tryz.isAgg3 U (Jm 3 U U)) U U U (Kw 1 U) (listed' := #[true,true,true,true,true,true,true,true,true,false,false,false,false,false,false]) U ?_
 refine Jv 9 (TK := [box br _,emp,fr,box b3 _]) U (by kernel_rfl) (by kernel_rfl) (by kernel_rfl) #[true,true,true,true,true,true,true,true,true,false,false,false,false,false,false] (by kernel_rfl) U (Kd (vs := [(0,.int _ _),(1,.int _ _),(2,_)]) (cells := #[_,_,_,.bool false,.bool false]) U (bd39_0_1_2 _ _ _)) U U U (Kw 1 U) (listed' := #[true,true,true,true,true,true,true,true,true,true,false,false,false,false,false]) U ?_
 refine Mr 10 (k' := 0) (listed' := #[true,true,true,true,true,true,true,true,true,true,true,false,false,false,false]) (by kernel_rfl) U U U ?_
 refine Qo (vs := [.agg #[_,_,_,_,_]]) (cells := #[_,_,_,_,_]) Tryz.underlying31 Tryz.sizeOf39 Tryz.zeroValue39 U (by decide) (by decide) U U U U (fun b49 hb49 => ?_)
 refine Ja ?_
 refine Mo (TK := [box br _,emp,fr,box b3 _]) U (Mb (Ko (T' := [box br _,rowl _ _ _ _ _ _,fr,box b3 _]) U) (Kw 1 U)) ?_
 refine Mr 11 (k' := 0) (listed' := #[true,true,true,true,true,true,true,true,true,true,true,true,false,false,false]) (by kernel_rfl) U U U ?_
 refine Qj 1 (f := thrCells) (l2 := [⟨x.user,x.line,1,false,false⟩]) Tryz.underlying31 el39 wide_thr (v := .slice hA _ hc) U U U U (fun h => by cases h) (by simp [maxLen]; omega) (by simp; omega) (Wp 4 U U) U (fun v50 => ?_)
 refine Ky (fun w hM => Ug (hM.own 1 U)) ?_
 rintro ⟨A50,c50,rfl,hc50,hm50⟩
 refine Ja ?_
 refine Mo (TK := [box br _,emp,fr,box b3 _]) U (Mb (Ko (T' := [box br _,rowl _ _ _ _ _ _,fr,box b3 _]) U) (Kw 1 U)) ?_
 refine Jv 12 (TK := [box br _,emp,fr,box b3 _]) U (by kernel_rfl) (by kernel_rfl) (by kernel_rfl) #[true,true,true,true,true,true,true,true,true,true,true,true,false,false,false] (by kernel_rfl) U (Jy U) U U U (Mb (Ko (T' := [box br _,rowl _ _ _ _ _ _,fr,box b3 _]) U) (Kw 1 U)) (listed' := #[true,true,true,true,true,true,true,true,true,true,true,true,true,false,false]) U ?_
 refine Jv 13 (TK := [box br _,emp,fr,box b3 _]) U (by kernel_rfl) (by kernel_rfl) (by kernel_rfl) #[true,true,true,true,true,true,true,true,true,true,true,true,true,false,false] (by kernel_rfl) U (Jc Yg U) U U U (Mb (Ko (T' := [box br _,rowl _ _ _ _ _ _,fr,box b3 _]) U) (Kw 1 U)) (listed' := #[true,true,true,true,true,true,true,true,true,true,true,true,true,true,false]) U ?_
 refine Mr 14 (k' := 1) (listed' := #[true,true,true,true,true,true,true,true,true,true,true,true,true,true,true]) (by kernel_rfl) U U U ?_
 refine Jr 0 (v := .slice A50 _ c50) (cs' := #[_,_]) U U Tryz.sizeOf31 U U U U (leb U) U U (Ja ?_)
 refine Mo (TK := []) U (Qn) ?_
 refine Qd (by kernel_rfl) ?_
 refine hN16 _ _ (gT [box br _,rowl _ _ _ _ _ _,fr,box b3 _,box b49 _] U (Jb [] trivial fun σ => Jg fun N17 hN17 => Jk (Jd (Jh U) U U U (Ja (hN17 _ _ (Jb [(4,.int _ _)] ⟨U,O⟩ fun σ => ?_))))))
 refine Ke fun w1 hM => ?_
 refine ⟨_,res1 rfl (rt (v := .int _ _) rfl),?_⟩
 rw [hS]
 exact ⟨tA,tc,A50,c50,_,rfl,htb,.inl ⟨rfl,rfl⟩,hM⟩
 have hg23d := odt hg23
 refine Kg U U U U hg23 U U (Kg U U U U hg23 U U (Kg U U U U hg23 U U (Kg U U U U hg23 U U (Kg U U U U hg23 U U (Kg U U U U hg23 U U (Kg U U U U hg23 U U (gq (Jo U hg23 U) U U U ?_)))))))
 refine Mn ?_
 refine hN11 _ _ (Jb [(0,.pointer _),(3,.pointer _),(32,.bool _)] ⟨U,U,U,O⟩ fun σ => ?_)
 refine Jt (b := _) U (fun hc32 => ?_) (fun hc32 => ?_)
 have hS : stepE (l,text) x.pl = (3,(l,text)) := by rw [Yr (e := x.pl) hc10 hc18,if_pos (show x.pl.line < 0 ∨ (text.length : Int) ≤ x.pl.line from by show x.line < 0 ∨ _ ≤ x.line; omega)]
 refine Jg fun N18 hN18 => Jk (Jd (Jh U) U U U (Ja (hN18 _ _ (Jb [(4,.int _ _)] ⟨U,O⟩ fun σ => ?_))))
 refine Ke fun w1 hM => ?_
 refine ⟨_,res1 rfl (rt (v := .int _ _) rfl),?_⟩
 rw [hS]
 exact ⟨tA,tc,_,_,_,rfl,htb,.inl ⟨rfl,rfl⟩,hM⟩
 cases hc32
 replace hc18 := odf hc18
 refine Jg fun N19 hN19 => Jk (Jd (Mc U U) U U U (Jd (Ji U) U U U (Ja (hN19 _ _ (Jb [(0,.pointer _),(3,.pointer _),(6,.pointer _),(53,.bool _)] ⟨U,U,U,U,O⟩ fun σ => ?_)))))
 refine Jt (b := _) U (fun hc53 => ?_) (fun hc53 => ?_)
 replace hc53 := odt hc53
 have hS : stepE (l,text) x.pl = patchT (l,text) (pls x.hs) := stepE_patch (e := x.pl) hc10 hc53
 refine Jg fun N20 hN20 => Jk (Jd (Ju (v := .pointer _) U) U U U (Jd (Jc Up U) U U U (Jd (Kk (cs := [_]) Tryz.isAgg27 Tryz.sizeOf27 U U (cells_of1 (Jm 3 U U))) U U U ?_)))
 refine Qk 0 1 (fun v r s G => ∃ tA' tc' hA' hc',v = .int .i64 (patchT (l,text) (pls x.hs)).1 ∧ r = box br (.cells #[.slice tA' ((patchT (l,text) (pls x.hs)).2.2).length tc',.slice hA' ((patchT (l,text) (pls x.hs)).2.1).length hc'] 98) ∧ s = rowl thrCells w0.heap.size 39 5 (.slice hA' (patchT (l,text) (pls x.hs)).2.1.length hc') ((patchT (l,text) (pls x.hs)).2.1) ∧ SB tA' (patchT (l,text) (pls x.hs)).2.2.length tc' 16 ∧ ((tA' = tA ∧ (patchT (l,text) (pls x.hs)).2.2 = text) ∨ ∀ w1,(∀ r ∈ G,r.ok w1) → Rdl w1 w0.heap.size 1 strCells tA' (patchT (l,text) (pls x.hs)).2.2)) (Kb (vs := [.pointer _,.agg #[_]]) Tryz.func61 U (by kernel_rfl) U) U U U (fun w fr1 hfr hM => (patch_any w0 w br tc hc tA hA text l fr1 hM (fun w1 h => htx w1 (hfr 2 fr U (by decide) (by decide) w1 h)) htb x.A x.c x.hs hx.pat hi).mono fun _ _ ⟨tA',tc',hA',hc',G,h1,h2,h3,h4⟩ => ⟨_,_,_,G,h1,⟨tA',tc',hA',hc',U,U,U,h2,h3⟩,h4⟩) U U U ?_
 rintro _ _ _ G ⟨tA2,tc2,hA2,hc2,rfl,rfl,rfl,hsb2,hdj⟩
 refine Jd (Jh U) U U U (Ja (hN20 _ _ (Jb [(4,.int _ _)] ⟨U,O⟩ fun σ => ?_)))
 refine Ke fun w1 hM => ?_
 refine ⟨_,res1 rfl (rt (v := .int _ _) rfl),?_⟩
 rw [hS]
 exact ⟨tA2,tc2,hA2,hc2,_,rfl,hsb2,hdj.imp_right (fun h w1 h1 => h w1 (fun r hr => h1 r (List.mem_cons_of_mem _ hr))),hM⟩
 replace hc53 := odf hc53
 refine Jw (hN7 _ _ (Jb [(3,.pointer _),(6,.pointer _)] ⟨U,U,O⟩ fun σ => Jg fun N21 hN21 => Jg fun N22 hN22 => Jk (Jd (Ju (v := .pointer _) U) U U U (Jd (y_eqlptr Tryz.underlying129 U U) U U U (Ja (hN22 _ _ (Jb [(3,.pointer _),(6,.pointer _),(60,.bool _)] ⟨U,U,U,O⟩ fun σ => ?_)))))))
 refine Jt (b := _) U (fun hc60 => ?_) (fun hc60 => ?_)
 have hS : stepE (l,text) x.pl = (6,(l,text)) := stepE_miss (e := x.pl) hc10 hc18 hc53 (thrP_none hsome hc60)
 refine Jg fun N23 hN23 => Jk (Jd (Jh U) U U U (Ja (hN23 _ _ (Jb [(4,.int _ _)] ⟨U,O⟩ fun σ => ?_))))
 refine Ke fun w1 hM => ?_
 refine ⟨_,res1 rfl (rt (v := .int _ _) rfl),?_⟩
 rw [hS]
 exact ⟨tA,tc,_,_,_,rfl,htb,.inl ⟨rfl,rfl⟩,hM⟩
 have hr := thrP_some hc60
 obtain ⟨t,ht⟩ : ∃ t,l[x.thread.toNat]? = some t := ⟨_,List.getElem?_eq_getElem (by omega)⟩
 have hS0 := stepE_hit (s := (l,text)) (e := x.pl) hc10 hc18 hc53 hr.1 ht
 have htm : t ∈ l := List.mem_of_getElem? ht
 have hc1 := hi.clo t htm
 have hc2 := hi.chi t htm
 refine Un (fun w hM => Zt (hM.own 1 U) (by omega)) ?_
 rintro ⟨rg,cg,hvg,-,-⟩
 simp only [Value.slice.injEq] at hvg
 obtain ⟨rfl,-,rfl⟩ := hvg
 have hthr : thrP (some ⟨rg,0,none⟩) l.length x.thread = some ((⟨rg,0,none⟩ : Addr).add (x.thread.toNat * 5)) := by rw [thrP,if_pos hr]; rfl
 rw [hthr]
 refine Jw (hN21 _ _ (Jb [(3,.pointer _),(6,.pointer _)] ⟨U,U,O⟩ fun σ => Jg fun N24 hN24 => Jg fun N25 hN25 => Jk (Jd (Jc JK U) U U U (Jd (Jq Tryz.isAgg3 U (Jm 3 U U)) U U U (Jd (Mc U U) U U U (Ja (hN25 _ _ (Jb [(3,.pointer _),(6,.pointer _),(63,.bool _)] ⟨U,U,U,O⟩ fun σ => ?_))))))))
 refine Jt (b := _) U (fun hc63 => ?_) (fun hc63 => ?_)
 replace hc63 := odt hc63
 have hS : stepE (l,text) x.pl = (0,(l.set x.thread.toNat { t with comments := t.comments + 1,resolved := false },text)) := by rw [hS0,if_pos (show x.pl.kind = 2 from hc63)]
 refine Jg fun N26 hN26 => Jk (Jd (Ju (v := .pointer _) U) U U U (Jd (Jy U) U U U (Jd (Kv fa39_2 U) U U U (Jd (Jq Tryz.isAgg3 U (Mj 1 (f := thrCells) (l := l) U U (fun _ => U) ht 2 _ U)) U U U (Jd (Kr U U ⟨by omega,by omega⟩) U U U (Jd (Jy U) U U U (Jd (Kv fa39_2 U) U U U ?_)))))))
 refine Mk 1 (f := thrCells) (l := l) (k := x.thread.toNat) (o := 2) (v := .int _ _) (a := t) (a' := { t with comments := t.comments + 1 }) (fun _ => U) U U U Tryz.sizeOf3 U U U U U ht (leb U) U U ?_
 refine Ja (hN26 _ _ (gT [box br _,rowl _ _ _ _ _ _,fr,box b3 _] U (Jb [(6,.pointer _)] ⟨U,O⟩ fun σ => Jg fun N27 hN27 => Jk (Jd (Ju (v := .pointer _) U) U U U (Jd (Jy U) U U U (Jd (Kv fa39_4 U) U U U ?_))))))
 refine Mk 1 (f := thrCells) (l := l.set x.thread.toNat { t with comments := t.comments + 1 }) (k := x.thread.toNat) (o := 4) (v := .bool _) (a := { t with comments := t.comments + 1 }) (a' := { t with comments := t.comments + 1,resolved := false }) (fun _ => U) U U U Tryz.sizeOf4 U U U U (by simp) (by rw [List.getElem?_set_self (List.getElem?_eq_some_iff.1 ht).1]) (leb U) U U ?_
 refine Ja (hN27 _ _ (gT [box br _,rowl _ _ _ _ _ _,fr,box b3 _] U (Jb [] trivial fun σ => Jg fun N28 hN28 => Jk (Jd (Jh U) U U U (Ja (hN28 _ _ (Jb [(4,.int _ _)] ⟨U,O⟩ fun σ => ?_)))))))
 refine Ke fun w1 hM => ?_
 refine ⟨_,res1 rfl (rt (v := .int _ _) rfl),?_⟩
 rw [hS]
 rw [List.set_set] at hM
 have e1 : l.length = (l.set x.thread.toNat { t with comments := t.comments + 1,resolved := false }).length := by simp
 rw [e1] at hM
 exact ⟨tA,tc,_,_,_,rfl,htb,.inl ⟨rfl,rfl⟩,hM⟩
 replace hc63 := odf hc63
 rw [if_neg (show ¬ x.pl.kind = 2 from hc63)] at hS0
 refine Jw (hN24 _ _ (Jb [(3,.pointer _),(6,.pointer _)] ⟨U,U,O⟩ fun σ => Jg fun N29 hN29 => Jg fun N30 hN30 => Jk (Jd (Ju (v := .pointer _) U) U U U (Jd (Jy U) U U U (Jd (Kv fa39_4 U) U U U (Jd (Jq Tryz.isAgg4 U (Mj 1 (f := thrCells) (l := l) U U (fun _ => U) ht 4 _ U)) U U U (Ja (hN30 _ _ ?_))))))))
 refine Jb [(3,.pointer _),(6,.pointer _),(77,.bool _)] ⟨U,U,U,O⟩ fun σ => ?_
 refine Jt (b := _) U (fun hc77 => ?_) (fun hc77 => ?_)
 have hS : stepE (l,text) x.pl = (11,(l,text)) := by rw [hS0,if_pos hc77]
 refine Jg fun N31 hN31 => Jk (Jd (Jh U) U U U (Ja (hN31 _ _ (Jb [(4,.int _ _)] ⟨U,O⟩ fun σ => ?_))))
 refine Ke fun w1 hM => ?_
 refine ⟨_,res1 rfl (rt (v := .int _ _) rfl),?_⟩
 rw [hS]
 exact ⟨tA,tc,_,_,_,rfl,htb,.inl ⟨rfl,rfl⟩,hM⟩
 rw [if_neg (by simp [hc77])] at hS0
 refine Jw (hN29 _ _ (Jb [(3,.pointer _),(6,.pointer _)] ⟨U,U,O⟩ fun σ => Jg fun N32 hN32 => Jg fun N33 hN33 => ?_))
 refine Qx (by kernel_rfl) (by kernel_rfl) ?_
 refine gq (Ju (v := .pointer _) U) U U U (gq (Jy U) U U U (gq (Kv fa39_0 U) U U U (gq (Jq Tryz.isAgg3 U (Mj 1 (f := thrCells) (l := l) U U (fun _ => U) ht 0 _ U)) U U U (gq (Jc fa29_1 U) U U U (gq (Jq Tryz.isAgg3 U (Jm 3 U U)) U U U (gq (Uj U U) U U U ?_))))))
 refine Mn ?_
 refine hN33 _ _ (Jb [(6,.pointer _),(84,.bool _)] ⟨U,U,O⟩ fun σ => ?_)
 refine Jt (b := _) U (fun hc84 => ?_) (fun hc84 => ?_)
 replace hc84 := odt hc84
 have hS : stepE (l,text) x.pl = (13,(l,text)) := by rw [hS0,if_pos (show t.user ≠ x.pl.user from hc84)]
 refine Jg fun N34 hN34 => Jk (Jd (Jh U) U U U (Ja (hN34 _ _ (Jb [(4,.int _ _)] ⟨U,O⟩ fun σ => ?_))))
 refine Ke fun w1 hM => ?_
 refine ⟨_,res1 rfl (rt (v := .int _ _) rfl),?_⟩
 rw [hS]
 exact ⟨tA,tc,_,_,_,rfl,htb,.inl ⟨rfl,rfl⟩,hM⟩
 replace hc84 := Decidable.not_not.1 (odf hc84)
 have hS : stepE (l,text) x.pl = (0,(l.set x.thread.toNat { t with resolved := true },text)) := by rw [hS0,if_neg (show ¬ t.user ≠ x.pl.user from fun h => h hc84)]
 refine Jw (hN32 _ _ (Jb [(6,.pointer _)] ⟨U,O⟩ fun σ => Jg fun N35 hN35 => Jk (Jd (Ju (v := .pointer _) U) U U U (Jd (Jy U) U U U (Jd (Kv fa39_4 U) U U U ?_)))))
 refine Mk 1 (f := thrCells) (l := l) (k := x.thread.toNat) (o := 4) (v := .bool _) (a := t) (a' := { t with resolved := true }) (fun _ => U) U U U Tryz.sizeOf4 U U U U U ht (leb U) U U ?_
 refine Ja (hN35 _ _ (gT [box br _,rowl _ _ _ _ _ _,fr,box b3 _] U (Jb [] trivial fun σ => Jg fun N36 hN36 => Jk (Jd (Jh U) U U U (Ja (hN36 _ _ (Jb [(4,.int _ _)] ⟨U,O⟩ fun σ => ?_)))))))
 refine Ke fun w1 hM => ?_
 refine ⟨_,res1 rfl (rt (v := .int _ _) rfl),?_⟩
 rw [hS]
 have e1 : l.length = (l.set x.thread.toNat { t with resolved := true }).length := by simp
 rw [e1] at hM
 exact ⟨tA,tc,_,_,_,rfl,htb,.inl ⟨rfl,rfl⟩,hM⟩
end Go.Proofs.YtbkameioedmlkaaGreatDoor
namespace Go.Proofs.YtbkameioedmlkaaGreatDoor
open Go.RowKit Go.Cf
set_option maxRecDepth 10000
theorem bd98_0 (x1 : Option Addr) (x1l x1c : Nat) : Tryz.prog.built 98 [(0, .slice x1 x1l x1c)] = some #[.slice x1 x1l x1c, .slice none 0 0] := by kernel_rfl
set_option maxHeartbeats 4000000 in
theorem run_any (w : World) (B : Option Addr) (d : Nat) (text : List ByteArray) (ht : Rdl w 0 1 strCells B text) (htb : SB B text.length d 16) (E : Option Addr) (ec : Nat) (es : List EvC) (he : EvsR w 0 E es) (hem : es.length ≤ maxLen) : Calls Tryz.prog 8 #[.slice B text.length d, .slice E es.length ec] w fun e w' => ∃ v1 v2, e = .returned (.tuple #[v1, v2, fv (runV text (evs es)).1]) ∧ Below w.heap.size w w' ∧ NewL 5 thrCells (runV text (evs es)).2.1 w.heap.size w' v1 ∧ NewL 1 strCells (runV text (evs es)).2.2 w.heap.size w' v2 := by
 have hmx : maxLen = 9223372036854775807 := rfl
 have htc := htb.len
 have htm := htb.max
 refine Kz Tryz.func8 U Tryz.ntmps8 (leb U) ?_
 refine Jb [(0,.slice _ _ _),(1,.slice _ _ _)] ⟨U,U,O⟩ fun σ => Jg fun N1 hN1 => Jk (Jd (Kq U) U U U (Jd (Kq U) U U U ?_))
 refine Ka (cs := #[.int .i64 0,.int .i64 0]) Tryz.zeroValue33 U U (fun b6 hb6 => ?_)
 refine Ja (hN1 _ _ (gT [box b6 _] U (Jb [(0,.slice _ _ _),(1,.slice _ _ _),(6,.pointer _)] ⟨U,U,U,O⟩ fun σ => Jg fun N2 hN2 => Jg fun N3 hN3 => Jk (Jd (Kl U) U U U ?_))))
 refine Km (Kb (vs := [.slice _ _ _,_]) Tryz.func28 U (by kernel_rfl) U) (fun w hM => Wf w _ _ _ (ht.base hM) (by omega) (-2)) U U U ?_
 refine Ka (cs := #[.int .i64 0,.int .i64 0]) Tryz.zeroValue33 U U (fun b7 hb7 => ?_)
 refine Jr 1 (v := .agg #[_,_]) (cs' := #[_,_]) U U Tryz.sizeOf33 U U U U (leb U) U U (Ja (hN3 _ _ (gT [box b6 _,box b7 _] U (Jb [(0,.slice _ _ _),(1,.slice _ _ _),(6,.pointer _),(7,.pointer _)] ⟨U,U,U,U,O⟩ fun σ => Jg fun N4 hN4 => Jk (Jd (Kk (cs := [_,_]) Tryz.isAgg33 Tryz.sizeOf33 U U (Kf 1 U)) U U U (Jd (Kd (vs := []) (cells := #[.int .i64 0,.int .i64 0]) U Qh) U U U (Jd (Uk (vx := .agg #[_,_]) (vy := .agg #[_,_]) U U (fun w => eg33 _ _ _ _ _ w) (fun w => ne33 _ _ _ _ w)) U U U (Ja ?_))))))))
 refine hN4 _ _ (Jb [(0,.slice _ _ _),(1,.slice _ _ _),(6,.pointer _),(7,.pointer _),(16,.bool _)] ⟨U,U,U,U,U,O⟩ fun σ => ?_)
 refine Jt (b := _) U (fun hc16 => ?_) (fun hc16 => ?_)
 replace hc16 := Qe.1 hc16
 have hV : runV text (evs es) = (secondF (linesF text) (-2),([],[])) := by rw [runV,if_pos hc16]
 refine Jg fun N5 hN5 => ?_
 refine Qr [] [(0,room b6 33 2)] (by kernel_rfl) ?_
 refine Jv 0 (TK := [room b6 33 2,box b7 _]) U (by kernel_rfl) (by kernel_rfl) (by kernel_rfl) #[false,true,true,false] (by kernel_rfl) U (Kk (cs := [_,_]) Tryz.isAgg33 Tryz.sizeOf33 U U (Kf 1 U)) U U U (Kj 0 U U) (listed' := #[true,false,false,false]) U ?_
 refine Jv 1 (TK := [room b6 33 2,box b7 _]) U (by kernel_rfl) (by kernel_rfl) (by kernel_rfl) #[true,false,false,false] (by kernel_rfl) U (Kq U) U U U (Kj 0 U U) (listed' := #[true,true,false,false]) U ?_
 refine Jv 2 (TK := [room b6 33 2,box b7 _]) U (by kernel_rfl) (by kernel_rfl) (by kernel_rfl) #[true,true,false,false] (by kernel_rfl) U (Kq U) U U U (Kj 0 U U) (listed' := #[true,true,true,false]) U ?_
 refine Mr 3 (k' := 0) (listed' := #[true,true,true,true]) (by kernel_rfl) U U U ?_
 refine Jr 0 (v := .agg #[_,_]) (cs' := #[_,_]) U U Tryz.sizeOf33 U U U U (leb U) U U (Ja ?_)
 refine Mo (TK := [room b6 33 2,box b7 _]) U (Kj 0 U U) ?_
 refine Qd (by kernel_rfl) ?_
 refine hN5 _ _ (gT [box b6 _,box b7 _] U (Jb [(4,.slice _ _ _),(5,.slice _ _ _),(6,.pointer _)] ⟨U,U,U,O⟩ fun σ => ?_))
 refine Ke fun w1 hM => ?_
 refine ⟨_,res3 rfl (rt (v := .slice _ _ _) rfl) (rt (v := .slice _ _ _) rfl) (rc 0 (cs := [_,_]) hM rfl rfl Tryz.isAgg33 Tryz.sizeOf33 rfl),?_⟩
 exact ⟨_,_,by rw [hV],hM.low,by rw [hV]; exact Wd,by rw [hV]; exact Wd⟩
 replace hc16 := Qf.1 hc16
 have htl := Qu (Yu hc16)
 refine Jw (hN2 _ _ (Jb [(0,.slice _ _ _),(1,.slice _ _ _),(6,.pointer _)] ⟨U,U,U,O⟩ fun σ => Jg fun N6 hN6 => Jg fun N7 hN7 => Jk (Jd (Kl U) U U U (Jd (Ks Tryz.underlying30 U) U U U (Jd (Mh U U) U U U (Ja (hN7 _ _ (Jb [(0,.slice _ _ _),(1,.slice _ _ _),(6,.pointer _),(20,.bool _)] ⟨U,U,U,U,O⟩ fun σ => ?_))))))))
 refine Jt (b := _) U (fun hc20 => ?_) (fun hc20 => ?_)
 replace hc20 := odt hc20
 have hV : runV text (evs es) = (⟨2,-1⟩,([],[])) := by rw [runV,if_neg (by simp [hc16]),if_pos (by simp; omega)]
 refine Jg fun N8 hN8 => Jk (Jd (Kd (vs := [(0,_),(1,_)]) (cells := #[_,_]) U (Ma _ _)) U U U (Jd (Kq U) U U U (Jd (Kq U) U U U (Jr 0 (v := .agg #[_,_]) (cs' := #[_,_]) U U Tryz.sizeOf33 U U U U (leb U) U U (Ja (hN8 _ _ (gT [box b6 _,box b7 _] U (Jb [(4,.slice _ _ _),(5,.slice _ _ _),(6,.pointer _)] ⟨U,U,U,O⟩ fun σ => ?_))))))))
 refine Ke fun w1 hM => ?_
 refine ⟨_,res3 rfl (rt (v := .slice _ _ _) rfl) (rt (v := .slice _ _ _) rfl) (rc 0 (cs := [_,_]) hM rfl rfl Tryz.isAgg33 Tryz.sizeOf33 rfl),?_⟩
 exact ⟨_,_,by rw [hV],hM.low,by rw [hV]; exact Wd,by rw [hV]; exact Wd⟩
 replace hc20 := odf hc20
 have hV0 : runV text (evs es) = runFrom 0 ([],text) (evs es) := by rw [runV,if_neg (by simp [hc16]),if_neg (by simp; omega)]
 refine Jw (hN6 _ _ (Jb [(0,.slice _ _ _),(1,.slice _ _ _),(6,.pointer _)] ⟨U,U,U,O⟩ fun σ => Jg fun N9 hN9 => Jk (Jd (Kl U) U U U ?_)))
 refine My (fun v T' => ∃ lo,w.heap.size ≤ lo ∧ T' = [rowl strCells lo 9 1 v text]) (Kb (vs := [.slice _ _ _]) Tryz.func29 U (by kernel_rfl) U) (fun w hM => (clone_any w _ _ _ (ht.base hM) (by omega) htb.nil).mono fun _ _ ⟨v,T1,h1,h2,h3⟩ => ⟨v,T1,h1,⟨_,hM.low.size,h2⟩,h3⟩) U U U ?_
 rintro v23 _ ⟨lo23,hlo23,rfl⟩
 refine Ky (fun w hM => Mz (hM.ok _ (List.mem_of_getElem? (i := 2) U))) ?_
 rintro ⟨A23,c23,rfl,hc23,hm23,hn23⟩
 refine Jd (Kd (vs := [(0,.slice A23 _ c23)]) (cells := #[_,.slice none 0 0]) U (bd98_0 _ _ _)) U U U ?_
 refine Ka (cs := #[.slice none 0 0,.slice none 0 0]) Tryz.zeroValue98 U U (fun b8 hb8 => ?_)
 refine Jr 3 (v := .agg #[_,_]) (cs' := #[_,_]) U U Tryz.sizeOf98 U U U U (leb U) U U (Ja (hN9 _ _ (gT [box b6 _,box b7 _,rowl _ _ _ _ _ _,box b8 _] U (Jb [(1,.slice _ _ _),(6,.pointer _),(8,.pointer _)] ⟨U,U,U,O⟩ fun σ => Jg fun N10 hN10 => Jg fun N11 hN11 => Jk (Jd (Kl U) U U U (Jd (Ks Tryz.underlying30 U) U U U (Jd (Jf U) U U U (Ja ?_))))))))
 refine hN11 _ _ (Jb [(6,.pointer _),(8,.pointer _),(25,.slice _ _ _),(26,.int _ _),(27,.int _ _)] ⟨U,U,U,U,U,O⟩ fun σ => Kn ?_)
 refine Xw thrCells 39 5 ?_
 refine Mm [(27,.int _ _)] [(6,.pointer _),(8,.pointer _),(25,.slice _ _ _),(26,.int _ _)] ⟨U,O⟩ ⟨U,U,U,U,O⟩ fun σ => ?_
 refine Ml (G := Nat × Nat × Nat × Option Addr × Option Addr × St × Reg) (fun (k,tc,hc,tA,hA,s,fr) => k ≤ es.length ∧ RI s k ∧ SB tA s.2.length tc 16 ∧ (∀ w1,fr.ok w1 → Rdl w1 w.heap.size 1 strCells tA s.2) ∧ runFrom k s ((evs es).drop k) = runFrom 0 ([],text) (evs es)) (fun (k,tc,hc,tA,hA,s,fr) => es.length - k) (fun (k,tc,hc,tA,hA,s,fr) => [(27,.int .i64 (k : Int))]) (fun (k,tc,hc,tA,hA,s,fr) => [(2,fr),(3,box b8 (.cells #[.slice tA (s.2).length tc,.slice hA (s.1).length hc] 98)),(4,rowl thrCells w.heap.size 39 5 (.slice hA s.1.length hc) (s.1))]) ((0,c23,0,A23,none,([],text),rowl strCells lo23 9 1 (.slice A23 text.length c23) text)) ?h0 ⟨U,O⟩ ⟨U,U,U,U,O⟩ U ?round
 case h0 => exact ⟨Nat.zero_le _,RI.start text htl,⟨hc23,hm23,hn23,by show text.length * 16 ≤ _; unfold reachBytes; omega⟩,fun w1 ho => (Qw (f := strCells) (fun _ => rfl) ho).mono hlo23,rfl⟩
 case round =>
  rintro ⟨k,tc,hc,tA,hA,s,fr⟩ hφ σ
  obtain ⟨hk,hri,hsb,hfx,hrun⟩ := hφ
  refine gT [box b6 _,box b7 _,fr,box b8 _,rowl _ _ _ _ _ _] U (Jg fun N12 hN12 => Jk (Jd (Me U U) U U U (Ja (hN12 _ _ (Jb [(6,.pointer _),(8,.pointer _),(25,.slice _ _ _),(26,.int _ _),(27,.int _ _),(28,.bool _)] ⟨U,U,U,U,U,U,O⟩ fun σ => Jg fun N13 hN13 => ?_)))))
  refine Jt (b := _) U (fun hc28 => ?_) (fun hc28 => ?_)
  replace hc28 := odt hc28
  have hk1 : k < es.length := by omega
  have hk2 : k < (evs es).length := by simpa using hk1
  obtain ⟨ad,rfl,-,hcv⟩ := he.rd.at_ hk1
  have hx := he.each _ (List.getElem_mem hk1)
  have hD := runFrom_drop hk2 k s
  rw [List.getElem_map] at hD
  refine Jw (hN13 _ _ (Jb [(6,.pointer _),(8,.pointer _),(25,.slice _ _ _),(26,.int _ _),(27,.int _ _)] ⟨U,U,U,U,U,O⟩ fun σ => Jg fun N14 hN14 => Kn (Jg fun N15 hN15 => Jk (Jd (Jf U) U U U (Jd (Jz Tryz.underlying30 Tryz.sizeOf29 U U U (by omega) (by omega)) U U U (Jd (Kk (cs := [_,_,_,_,_,_]) Tryz.isAgg29 Tryz.sizeOf29 U U (Mv hcv)) U U U ?_))))))
  refine Ka (cs := #[.int .i64 0,.int .i64 0,.int .i64 0,.int .i64 0,.string .empty,.slice none 0 0]) Tryz.zeroValue29 U U (fun b10 hb10 => ?_)
  refine Jd (Jh U) U U U (Jr 5 (v := .agg #[_,_,_,_,_,_]) (cs' := #[_,_,_,_,_,_]) U U Tryz.sizeOf29 U U U U (leb U) U U (Ja (hN15 _ _ (gT [box b6 _,box b7 _,fr,box b8 _,rowl _ _ _ _ _ _,box b10 _] U (Jb [(6,.pointer _),(8,.pointer _),(9,.int _ _),(10,.pointer _),(25,.slice _ _ _),(26,.int _ _),(27,.int _ _)] ⟨U,U,U,U,U,U,U,O⟩ fun σ => Jg fun N16 hN16 => Jk (Jd (Kk (cs := [_,_,_,_,_,_]) Tryz.isAgg29 Tryz.sizeOf29 U U (Kf 5 U)) U U U ?_))))))
  refine Qk 3 4 (fun v r q G => ∃ tA' tc' hA' hc',v = .int .i64 (stepE s es[k].pl).1 ∧ r = box b8 (.cells #[.slice tA' ((stepE s es[k].pl).2.2).length tc',.slice hA' ((stepE s es[k].pl).2.1).length hc'] 98) ∧ q = rowl thrCells w.heap.size 39 5 (.slice hA' (stepE s es[k].pl).2.1.length hc') ((stepE s es[k].pl).2.1) ∧ SB tA' (stepE s es[k].pl).2.2.length tc' 16 ∧ ((tA' = tA ∧ (stepE s es[k].pl).2.2 = s.2) ∨ ∀ w1,(∀ r ∈ G,r.ok w1) → Rdl w1 w.heap.size 1 strCells tA' (stepE s es[k].pl).2.2)) (Kb (vs := [.pointer _,.agg #[_,_,_,_,_,_]]) Tryz.func30 U (by kernel_rfl) U) U U U (fun w fr1 hfr hM => (step_any _ w b8 tc hc tA hA s.2 s.1 fr1 hM (fun w1 h => hfx w1 (hfr 2 _ U (by decide) (by decide) w1 h)) hsb es[k] hx (hri.up (by omega))).mono fun _ _ ⟨tA',tc',hA',hc',G,h1,h2,h3,h4⟩ => ⟨_,_,_,G,h1,⟨tA',tc',hA',hc',U,U,U,h2,h3⟩,h4⟩) U U U ?_
  rintro _ _ _ G ⟨tA2,tc2,hA2,hc2,rfl,rfl,rfl,hsb2,hdj⟩
  refine Yk _ (Um 5 2 U) ?_
  refine Jd (Jh U) U U U (Ja (hN16 _ _ (gT [box b6 _,box b7 _,_,box b8 _,rowl _ _ _ _ _ _] U (Jb [(6,.pointer _),(8,.pointer _),(9,.int _ _),(11,.int _ _),(25,.slice _ _ _),(26,.int _ _),(27,.int _ _)] ⟨U,U,U,U,U,U,U,O⟩ fun σ => Jg fun N17 hN17 => Jk (Jd (Jf U) U U U (Jd (Uj U U) U U U (Ja (hN17 _ _ ?_))))))))
  refine Jb [(6,.pointer _),(8,.pointer _),(9,.int _ _),(11,.int _ _),(25,.slice _ _ _),(26,.int _ _),(27,.int _ _),(35,.bool _)] ⟨U,U,U,U,U,U,U,U,O⟩ fun σ => ?_
  refine Jt (b := _) U (fun hc35 => ?_) (fun hc35 => ?_)
  replace hc35 := odt hc35
  have hV : runV text (evs es) = (⟨(stepE s es[k].pl).1,k⟩,([],[])) := by rw [hV0,← hrun,hD,if_pos hc35]
  refine Jg fun N18 hN18 => Jk (Jd (Jf U) U U U (Jd (Jf U) U U U (Jd (Kd (vs := [(0,.int _ _),(1,.int _ _)]) (cells := #[_,_]) U (Ma _ _)) U U U (Jd (Kq U) U U U (Jd (Kq U) U U U (Jr 0 (v := .agg #[_,_]) (cs' := #[_,_]) U U Tryz.sizeOf33 U U U U (leb U) U U (Ja (hN18 _ _ ?_))))))))
  refine gT [box b6 _,box b7 _,_,box b8 _,rowl _ _ _ _ _ _] U (Jb [(4,.slice _ _ _),(5,.slice _ _ _),(6,.pointer _)] ⟨U,U,U,O⟩ fun σ => ?_)
  refine Ke fun w1 hM => ?_
  refine ⟨_,res3 rfl (rt (v := .slice _ _ _) rfl) (rt (v := .slice _ _ _) rfl) (rc 0 (cs := [_,_]) hM rfl rfl Tryz.isAgg33 Tryz.sizeOf33 rfl),?_⟩
  exact ⟨_,_,by rw [hV],hM.low,by rw [hV]; exact Wd,by rw [hV]; exact Wd⟩
  replace hc35 := Decidable.not_not.1 (odf hc35)
  refine Jw (hN14 _ _ (Jb [(6,.pointer _),(8,.pointer _),(25,.slice _ _ _),(26,.int _ _),(27,.int _ _)] ⟨U,U,U,U,U,O⟩ fun σ => Jk (Jd (Kr U U ⟨by omega,by omega⟩) U U U (Jd (Jf U) U U U (Ja ?_)))))
  refine Kt ((k + 1,tc2,hc2,tA2,hA2,(stepE s es[k].pl).2,both fr (all_ _))) (by show es.length - (k + 1) < es.length - k; omega) (⟨by show k + 1 ≤ _; omega,stepE_RI hri _ hc35,hsb2,?hfx,by rw [← hrun,hD,if_neg (by simp [hc35])]⟩) ⟨U,O⟩ ⟨U,U,U,U,O⟩ ⟨_,U⟩
  case hfx =>
   intro w1 ho
   rcases hdj with ⟨e1,e2⟩ | h2
   rw [e1,e2]; exact hfx w1 ho.1
   exact h2 w1 fun r hr => (all_ok _ w1).1 ho.2 r (List.mem_cons_of_mem _ hr)
  replace hc28 := odf hc28
  have hV : runV text (evs es) = (⟨0,0⟩,s) := by rw [hV0,← hrun,List.drop_eq_nil_of_le (by simp; omega),runFrom]
  refine Mx ?_
  refine hN10 _ _ (Jb [(6,.pointer _),(8,.pointer _)] ⟨U,U,O⟩ fun σ => Jg fun N19 hN19 => ?_)
  refine Qr [] [(0,room b6 33 2)] (by kernel_rfl) ?_
  refine Jv 0 (TK := [room b6 33 2,box b7 _,fr,box b8 _,rowl _ _ _ _ _ _]) U (by kernel_rfl) (by kernel_rfl) (by kernel_rfl) #[false,false,true,true,true,false,false,false] (by kernel_rfl) U (Jc Yg U) U U U (Kj 0 U U) (listed' := #[true,false,false,false,false,false,false,false]) U ?_
  refine Jv 1 (TK := [room b6 33 2,box b7 _,fr,box b8 _,rowl _ _ _ _ _ _]) U (by kernel_rfl) (by kernel_rfl) (by kernel_rfl) #[true,false,true,true,true,false,false,false] (by kernel_rfl) U (Jq Tryz.isAgg31 U (Jm 3 U U)) U U U (Kj 0 U U) (listed' := #[true,true,false,false,false,false,false,false]) U ?_
  refine Jv 2 (TK := [room b6 33 2,box b7 _,fr,box b8 _,rowl _ _ _ _ _ _]) U (by kernel_rfl) (by kernel_rfl) (by kernel_rfl) #[true,true,false,false,true,true,false,false] (by kernel_rfl) U (Jc fa98_0 U) U U U (Kj 0 U U) (listed' := #[true,true,true,false,false,false,false,false]) U ?_
  refine Jv 3 (TK := [room b6 33 2,box b7 _,fr,box b8 _,rowl _ _ _ _ _ _]) U (by kernel_rfl) (by kernel_rfl) (by kernel_rfl) #[true,true,true,false,true,true,false,false] (by kernel_rfl) U (Jq Tryz.isAgg22 U (Jm 3 U U)) U U U (Kj 0 U U) (listed' := #[true,true,true,true,false,false,false,false]) U ?_
  refine Jv 4 (TK := [room b6 33 2,box b7 _,fr,box b8 _,rowl _ _ _ _ _ _]) U (by kernel_rfl) (by kernel_rfl) (by kernel_rfl) #[true,true,true,true,false,true,true,false] (by kernel_rfl) U (Kd (vs := []) (cells := #[.int .i64 0,.int .i64 0]) U Qh) U U U (Kj 0 U U) (listed' := #[true,true,true,true,true,false,false,false]) U ?_
  refine Jv 5 (TK := [room b6 33 2,box b7 _,fr,box b8 _,rowl _ _ _ _ _ _]) U (by kernel_rfl) (by kernel_rfl) (by kernel_rfl) #[true,true,true,true,true,false,false,false] (by kernel_rfl) U (Kq U) U U U (Kj 0 U U) (listed' := #[true,true,true,true,true,true,false,false]) U ?_
  refine Jv 6 (TK := [room b6 33 2,box b7 _,fr,box b8 _,rowl _ _ _ _ _ _]) U (by kernel_rfl) (by kernel_rfl) (by kernel_rfl) #[true,true,true,true,true,true,false,false] (by kernel_rfl) U (Kq U) U U U (Kj 0 U U) (listed' := #[true,true,true,true,true,true,true,false]) U ?_
  refine Mr 7 (k' := 0) (listed' := #[true,true,true,true,true,true,true,true]) (by kernel_rfl) U U U ?_
  refine Jr 0 (v := .agg #[_,_]) (cs' := #[_,_]) U U Tryz.sizeOf33 U U U U (leb U) U U (Ja ?_)
  refine Mo (TK := [room b6 33 2,box b7 _,fr,box b8 _,rowl _ _ _ _ _ _]) U (Kj 0 U U) ?_
  refine Qd (by kernel_rfl) ?_
  refine hN19 _ _ (gT [box b6 _,box b7 _,fr,box b8 _,rowl _ _ _ _ _ _] U (Jb [(4,.slice _ _ _),(5,.slice _ _ _),(6,.pointer _)] ⟨U,U,U,O⟩ fun σ => ?_))
  refine Ke fun w1 hM => ?_
  refine ⟨_,res3 rfl (rt (v := .slice _ _ _) rfl) (rt (v := .slice _ _ _) rfl) (rc 0 (cs := [_,_]) hM rfl rfl Tryz.isAgg33 Tryz.sizeOf33 rfl),?_⟩
  exact ⟨_,_,by rw [hV],hM.low,by rw [hV]; exact hM.newL 4 rfl (fun _ => rfl),by rw [hV]; exact ⟨tA,tc,rfl,hsb.len,hsb.max,hfx w1 (hM.ok _ (List.mem_of_getElem? (i := 2) rfl))⟩⟩
end Go.Proofs.YtbkameioedmlkaaGreatDoor
namespace Go.Proofs.YtbkameioedmlkaaGreatDoor
open Go.RowKit Go.Cf
set_option maxRecDepth 10000
theorem fa48_0 (a : Addr) (w : World) : (Instr.fieldAt 48 (.pointer (some a)) 0).run Tryz.prog w = .ok (.pointer (some (a.add 0))) w := by kernel_rfl
theorem fa48_2 (a : Addr) (w : World) : (Instr.fieldAt 48 (.pointer (some a)) 2).run Tryz.prog w = .ok (.pointer (some (a.add 2))) w := by kernel_rfl
theorem fa48_3 (a : Addr) (w : World) : (Instr.fieldAt 48 (.pointer (some a)) 3).run Tryz.prog w = .ok (.pointer (some (a.add 3))) w := by kernel_rfl
set_option maxHeartbeats 1000000 in
theorem polOps_any (w : World) (k : Int) : Calls Tryz.prog 67 #[.int .i64 k] w fun e w' => e = .returned (.int .i64 (opN k : Nat)) ∧ Below w.heap.size w w' := by
 refine Kz Tryz.func67 U Tryz.ntmps67 (leb U) ?_
 refine Jb [(0,.int _ _)] ⟨U,O⟩ fun σ => Jg fun N1 hN1 => Jk (Jd (Jh U) U U U (Ja (hN1 _ _ (Jb [(0,.int _ _)] ⟨U,O⟩ fun σ => Jg fun N2 hN2 => Jg fun N3 hN3 => Jk (Jd (Jf U) U U U (Ja (hN3 _ _ (Jb [(3,.int _ _)] ⟨U,O⟩ fun σ => ?_))))))))
 refine Kn (Jg fun N4 hN4 => Jk (Jd (Mc U U) U U U (Jd (Ji U) U U U (Ja (hN4 _ _ (Jb [(3,.int _ _),(4,.bool _)] ⟨U,U,O⟩ fun σ => ?_))))))
 refine Jt (b := _) U (fun hc4 => ?_) (fun hc4 => ?_)
 replace hc4 := odt hc4
 refine Jg fun N5 hN5 => Jk (Jd (Jh U) U U U (Ja (hN5 _ _ (Jb [(2,.int _ _)] ⟨U,O⟩ fun σ => ?_))))
 refine Ke fun w1 hM => ?_
 refine ⟨_,res1 rfl (rt (v := .int _ _) rfl),?_⟩
 exact ⟨by rw [opN,if_pos hc4]; rfl,hM.low⟩
 replace hc4 := odf hc4
 refine Jg fun N6 hN6 => Jg fun N7 hN7 => Jk (Jd (Mc U U) U U U (Jd (Ji U) U U U (Ja (hN7 _ _ (Jb [(3,.int _ _),(6,.bool _)] ⟨U,U,O⟩ fun σ => ?_)))))
 refine Jt (b := _) U (fun hc6 => ?_) (fun hc6 => ?_)
 replace hc6 := odt hc6
 refine Jw (hN6 _ _ (Jb [(6,.bool _)] ⟨U,O⟩ fun σ => ?_))
 refine Jt (b := _) U (fun hc6 => ?_) (fun hc6 => ?_)
 replace hc6 := odt hc6
 refine Jg fun N8 hN8 => Jk (Jd (Jh U) U U U (Ja (hN8 _ _ (Jb [(2,.int _ _)] ⟨U,O⟩ fun σ => ?_))))
 refine Ke fun w1 hM => ?_
 refine ⟨_,res1 rfl (rt (v := .int _ _) rfl),?_⟩
 exact ⟨by rw [opN,if_neg (by omega),if_pos (by omega)]; rfl,hM.low⟩
 replace hc6 := odf hc6
 refine Jw (hN2 _ _ (Jb [] trivial fun σ => Jg fun N9 hN9 => Jk (Jd (Jh U) U U U (Ja (hN9 _ _ (Jb [(2,.int _ _)] ⟨U,O⟩ fun σ => ?_))))))
 refine Ke fun w1 hM => ?_
 refine ⟨_,res1 rfl (rt (v := .int _ _) rfl),?_⟩
 first | (exfalso; omega) | exact ⟨by rw [opN,if_neg (by omega),if_neg (by omega)]; rfl,hM.low⟩
 replace hc6 := odf hc6
 refine Jk (Jd (Mc U U) U U U (Jd (Ji U) U U U (Ja (hN6 _ _ (Jb [(6,.bool _)] ⟨U,O⟩ fun σ => ?_)))))
 refine Jt (b := _) U (fun hc6 => ?_) (fun hc6 => ?_)
 replace hc6 := odt hc6
 refine Jg fun N10 hN10 => Jk (Jd (Jh U) U U U (Ja (hN10 _ _ (Jb [(2,.int _ _)] ⟨U,O⟩ fun σ => ?_))))
 refine Ke fun w1 hM => ?_
 refine ⟨_,res1 rfl (rt (v := .int _ _) rfl),?_⟩
 exact ⟨by rw [opN,if_neg (by omega),if_pos (by omega)]; rfl,hM.low⟩
 replace hc6 := odf hc6
 refine Jw (hN2 _ _ (Jb [] trivial fun σ => Jg fun N11 hN11 => Jk (Jd (Jh U) U U U (Ja (hN11 _ _ (Jb [(2,.int _ _)] ⟨U,O⟩ fun σ => ?_))))))
 refine Ke fun w1 hM => ?_
 refine ⟨_,res1 rfl (rt (v := .int _ _) rfl),?_⟩
 first | (exfalso; omega) | exact ⟨by rw [opN,if_neg (by omega),if_neg (by omega)]; rfl,hM.low⟩
set_option maxHeartbeats 1000000 in
theorem polMost_any (w : World) (k : Int) : Calls Tryz.prog 98 #[.int .i64 k] w fun e w' => e = .returned (.int .i64 (mostN k)) ∧ Below w.heap.size w w' := by
 refine Kz Tryz.func98 U Tryz.ntmps98 (leb U) ?_
 refine Jb [(0,.int _ _)] ⟨U,O⟩ fun σ => Jg fun N1 hN1 => Jk (Jd (Jh U) U U U (Ja (hN1 _ _ (Jb [(0,.int _ _)] ⟨U,O⟩ fun σ => Jg fun N2 hN2 => Jg fun N3 hN3 => Jk (Jd (Jf U) U U U (Ja (hN3 _ _ (Jb [(3,.int _ _)] ⟨U,O⟩ fun σ => ?_))))))))
 refine Kn (Jg fun N4 hN4 => Jk (Jd (Mc U U) U U U (Jd (Ji U) U U U (Ja (hN4 _ _ (Jb [(3,.int _ _),(4,.bool _)] ⟨U,U,O⟩ fun σ => ?_))))))
 refine Jt (b := _) U (fun hc4 => ?_) (fun hc4 => ?_)
 replace hc4 := odt hc4
 refine Jg fun N5 hN5 => Jk (Jd (Jh U) U U U (Ja (hN5 _ _ (Jb [(2,.int _ _)] ⟨U,O⟩ fun σ => ?_))))
 refine Ke fun w1 hM => ?_
 refine ⟨_,res1 rfl (rt (v := .int _ _) rfl),?_⟩
 exact ⟨by rw [mostN,if_pos (by omega)],hM.low⟩
 replace hc4 := odf hc4
 refine Jg fun N6 hN6 => Jk (Jd (Mc U U) U U U (Jd (Ji U) U U U (Ja (hN6 _ _ (Jb [(6,.bool _)] ⟨U,O⟩ fun σ => ?_)))))
 refine Jt (b := _) U (fun hc6 => ?_) (fun hc6 => ?_)
 replace hc6 := odt hc6
 refine Jg fun N7 hN7 => Jk (Jd (Jh U) U U U (Ja (hN7 _ _ (Jb [(2,.int _ _)] ⟨U,O⟩ fun σ => ?_))))
 refine Ke fun w1 hM => ?_
 refine ⟨_,res1 rfl (rt (v := .int _ _) rfl),?_⟩
 exact ⟨by rw [mostN,if_neg (by omega),if_pos (by omega)],hM.low⟩
 replace hc6 := odf hc6
 refine Jw (hN2 _ _ (Jb [] trivial fun σ => Jg fun N8 hN8 => Jk (Jd (Jh U) U U U (Ja (hN8 _ _ (Jb [(2,.int _ _)] ⟨U,O⟩ fun σ => ?_))))))
 refine Ke fun w1 hM => ?_
 refine ⟨_,res1 rfl (rt (v := .int _ _) rfl),?_⟩
 exact ⟨by rw [mostN,if_neg (by omega),if_neg (by omega)],hM.low⟩
end Go.Proofs.YtbkameioedmlkaaGreatDoor
namespace Go.Proofs.YtbkameioedmlkaaGreatDoor
open Go.RowKit Go.Cf
set_option maxRecDepth 10000
theorem fa43_0 (a : Addr) (w : World) : (Instr.fieldAt 43 (.pointer (some a)) 0).run Tryz.prog w = .ok (.pointer (some (a.add 0))) w := by kernel_rfl
set_option maxHeartbeats 4000000 in
theorem polDepth_any (w : World) (A : Option Addr) (c : Nat) (l : List PN) (hl : Rdl w 0 4 pnCells A l) (hlc : l.length ≤ c) (hcm : c ≤ maxLen) (hln : l.length ≤ 1000) (hpos : 0 < l.length) (hk : Linked l) : Calls Tryz.prog 68 #[.agg #[.slice A l.length c]] w fun e w' => e = .returned (.int .i64 (depL l)) ∧ Below w.heap.size w w' := by
 have hlm : l.length ≤ 9223372036854775807 := by have h9 := Nat.le_trans hlc hcm; unfold maxLen at h9; omega
 refine Kz Tryz.func68 U Tryz.ntmps68 (leb U) ?_
 refine Jb [(0,.agg #[_])] ⟨U,O⟩ fun σ => Jg fun N1 hN1 => Jk ?_
 refine Mt (v := .agg #[_]) (cs := #[_]) U U U (fun b1 hb1 => ?_)
 refine Jd (Jh U) U U U (Ja (hN1 _ _ (gT [box b1 _] U (Jb [(1,.pointer _)] ⟨U,O⟩ fun σ => Jg fun N2 hN2 => Jk (Jd (Jc fa43_0 U) U U U (Jd (Jq Tryz.isAgg41 U (Jm 0 U U)) U U U (Jd (Ks Tryz.underlying41 U) U U U ?_)))))))
 refine Zy (f := intCells) (bytes := 8) (z := .int .i64 0) ((0 : Int)) Tryz.underlying74 (by kernel_rfl) U U U (k := l.length) U U (by omega) (by simp [maxLen]; omega) U (fun b9 hb9 => ?_)
 refine Jd (Kx (v := .slice (some _) _ _) U) U U U (Ja (hN2 _ _ (gT [box b1 _,rowl _ _ _ _ _ _] U (Jb [(1,.pointer _),(3,.slice (some _) _ _)] ⟨U,U,O⟩ fun σ => Jg fun N3 hN3 => Jg fun N4 hN4 => Jk (Jd (Jc fa43_0 U) U U U (Jd (Jq Tryz.isAgg41 U (Jm 0 U U)) U U U (Jd (Ks Tryz.underlying41 U) U U U (Jd (Jf U) U U U ?_))))))))
 refine Ja (hN4 _ _ (Jb [(3,.slice (some _) _ _),(11,.slice _ _ _),(12,.int _ _),(13,.int _ _)] ⟨U,U,U,U,O⟩ fun σ => Kn ?_))
 rw [← pad_nil l.length (0 : Int)]
 refine Mm [(13,.int _ _)] [(3,.slice (some _) _ _),(11,.slice _ _ _),(12,.int _ _)] ⟨U,O⟩ ⟨U,U,U,O⟩ fun σ => ?_
 refine Ml (G := Nat) (fun k => k ≤ l.length) (fun k => l.length - k) (fun k => [(13,.int .i64 (k : Int))]) (fun k => [(1,rowl intCells w.heap.size 3 1 (.slice (some ⟨b9,0,none⟩) l.length l.length) (pad 0 (foldTo dN l k) l.length))]) (0) ?h0 ⟨U,O⟩ ⟨U,U,U,O⟩ U ?round
 case h0 => exact Nat.zero_le _
 case round =>
  intro k hφ σ
  have hkk : k ≤ l.length := hφ
  refine gT [box b1 _,rowl _ _ _ _ _ _] U (Jg fun N5 hN5 => Jk (Jd (Me U U) U U U (Ja (hN5 _ _ (Jb [(3,.slice (some _) _ _),(11,.slice _ _ _),(12,.int _ _),(13,.int _ _),(14,.bool _)] ⟨U,U,U,U,U,O⟩ fun σ => Jg fun N6 hN6 => ?_)))))
  refine Jt (b := _) U (fun hc14 => ?_) (fun hc14 => ?_)
  replace hc14 := odt hc14
  have hk1 : k < l.length := by omega
  obtain ⟨ad,rfl,-,hca⟩ := hl.at_ hk1
  obtain ⟨hkl,hkr⟩ := hk k hk1
  refine Jw (hN6 _ _ (Jb [(3,.slice (some _) _ _),(11,.slice _ _ _),(12,.int _ _),(13,.int _ _)] ⟨U,U,U,U,O⟩ fun σ => Jg fun N7 hN7 => Kn (Jg fun N8 hN8 => Jk (Jd (Jf U) U U U (Jd (Jz (m := k) Tryz.underlying41 Tryz.sizeOf48 U U (by omega) (by omega) (by omega)) U U U (Jd (Kk (cs := [_,_,_,_]) Tryz.isAgg48 Tryz.sizeOf48 U U (Mv hca)) U U U ?_))))))
  refine Ka (cs := #[.int .i64 0,.int .i64 0,.int .i64 0,.int .i64 0]) Tryz.zeroValue48 U U (fun b5 hb5 => ?_)
  refine Jd (Jh U) U U U (Jr 2 (v := .agg #[_,_,_,_]) (cs' := #[_,_,_,_]) U U Tryz.sizeOf48 U U U U (leb U) U U (Ja (hN8 _ _ (gT [box b1 _,rowl _ _ _ _ _ _,box b5 _] U (Jb [(3,.slice (some _) _ _),(4,.int _ _),(5,.pointer _),(11,.slice _ _ _),(12,.int _ _),(13,.int _ _)] ⟨U,U,U,U,U,U,O⟩ fun σ => Jg fun N9 hN9 => Jk (Jd (Ju (v := .slice (some _) _ _) U) U U U (Jd (Jf U) U U U (Jd (Jz (m := k) Tryz.underlying74 Tryz.sizeOf3 U U (by omega) (by omega) (by omega)) U U U ?_))))))))
  refine Mk 1 (f := intCells) (l := pad 0 (foldTo dN l k) l.length) (k := k) (o := 0) (v := .int _ _) (a := (0 : Int)) (a' := (1 : Int)) (fun _ => U) U U U Tryz.sizeOf3 U U U U (Za (by rw [Mq]; omega)).symm (pad_at (Mq k) hk1) (leb U) U U ?_
  refine Ja (hN9 _ _ (gT [box b1 _,rowl _ _ _ _ _ _,box b5 _] U (Jb [(3,.slice (some _) _ _),(4,.int _ _),(5,.pointer _),(11,.slice _ _ _),(12,.int _ _),(13,.int _ _)] ⟨U,U,U,U,U,U,O⟩ fun σ => Jg fun N10 hN10 => Jb [(3,.slice (some _) _ _),(4,.int _ _),(5,.pointer _),(11,.slice _ _ _),(12,.int _ _),(13,.int _ _)] ⟨U,U,U,U,U,U,O⟩ fun σ => ?_)))
  refine gcut3 (Lf := [(3,.slice (some _) _ _),(4,.int _ _),(5,.pointer _),(11,.slice _ _ _),(12,.int _ _),(13,.int _ _)]) (G := Unit) (fun g => True) (fun g => []) (fun g => [(1,rowl intCells w.heap.size 3 1 (.slice (some ⟨b9,0,none⟩) l.length l.length) (pad 0 ((foldTo dN l k) ++ [d1 l[k] (foldTo dN l k)]) l.length))]) ⟨U,U,U,U,U,U,O⟩ ?_ ?_
  refine Jg fun N11 hN11 => Jk (Jd (Jc fa48_0 U) U U U (Jd (Jq Tryz.isAgg3 U (Jm 2 U U)) U U U ?_))
  refine Km (Kb (vs := [.int _ _]) Tryz.func67 U (by kernel_rfl) U) (fun w hM => polOps_any w _) U U U ?_
  refine Jd (Mh U U) U U U (Ja (hN11 _ _ (Jb [(3,.slice (some _) _ _),(4,.int _ _),(5,.pointer _),(11,.slice _ _ _),(12,.int _ _),(13,.int _ _),(24,.bool _)] ⟨U,U,U,U,U,U,U,O⟩ fun σ => ?_)))
  refine Jt (b := _) U (fun hc24 => ?_) (fun hc24 => ?_)
  replace hc24 := odt hc24
  obtain ⟨hl0,hl1⟩ := hkl (by omega)
  obtain ⟨hg0,hg1⟩ := gI_range hk (Nat.le_of_lt hk1) hl0 hl1
  have hd1 : d1 l[k] (foldTo dN l k) = gI (foldTo dN l k) l[k].left + 1 := by rw [d1,if_neg (by omega)]
  refine Jk (Jd (Ju (v := .slice (some _) _ _) U) U U U (Jd (Jf U) U U U (Jd (Ju (v := .slice (some _) _ _) U) U U U (Jd (Jc fa48_2 U) U U U (Jd (Jq Tryz.isAgg3 U (Jm 2 U U)) U U U (Jd (Jz (m := l[k].left.toNat) Tryz.underlying74 Tryz.sizeOf3 U U (by omega) (by omega) (by omega)) U U U ?_))))))
  refine Jd (Jq Tryz.isAgg3 U (Mj 1 (f := intCells) (l := (pad 0 (foldTo dN l k) l.length).set k 1) U (by rw [List.length_set,Za (by rw [Mq]; omega)]) (fun _ => U) (by rw [List.getElem?_set_ne (by omega),pad_old (by rw [Mq]; omega)]; exact gI_get (by rw [Mq]; omega)) 0 _ U)) U U U ?_
  refine Jd (Kr U U ⟨by omega,by omega⟩) U U U (Jd (Jz (m := k) Tryz.underlying74 Tryz.sizeOf3 U U (by omega) (by omega) (by omega)) U U U ?_)
  refine Mk 1 (f := intCells) (l := (pad 0 (foldTo dN l k) l.length).set k 1) (k := k) (o := 0) (v := .int _ _) (a := (1 : Int)) (a' := _) (fun _ => U) U U U Tryz.sizeOf3 U U U U (by rw [List.length_set,Za (by rw [Mq]; omega)]) (by rw [pad_set (Mq k) hk1]; exact pad_new (Mq k)) (leb U) U U ?_
  refine Ja ?_
  rw [hd1,pad_set (Mq k) hk1,pad_set2 (Mq k)]
  refine Ki (()) (trivial) trivial ⟨U,U,U,U,U,U,O⟩ ⟨_,U⟩
  replace hc24 := odf hc24
  have hd1 : d1 l[k] (foldTo dN l k) = 1 := by rw [d1,if_pos (by omega)]
  refine Jw ?_
  rw [hd1,pad_set (Mq k) hk1]
  refine Ki (()) (trivial) trivial ⟨U,U,U,U,U,U,O⟩ ⟨_,U⟩
  intro g hcut σ
  refine hN10 _ _ (Jg fun N12 hN12 => Jk (Jd (Jc fa48_0 U) U U U (Jd (Jq Tryz.isAgg3 U (Jm 2 U U)) U U U ?_)))
  refine Km (Kb (vs := [.int _ _]) Tryz.func67 U (by kernel_rfl) U) (fun w hM => polOps_any w _) U U U ?_
  refine Jd (Mh U U) U U U (Ja (hN12 _ _ (gT [box b1 _,rowl _ _ _ _ _ _,box b5 _] U (Jb [(3,.slice (some _) _ _),(4,.int _ _),(5,.pointer _),(11,.slice _ _ _),(12,.int _ _),(13,.int _ _),(37,.bool _)] ⟨U,U,U,U,U,U,U,O⟩ fun σ => ?_))))
  refine Jt (b := _) U (fun hc37 => ?_) (fun hc37 => ?_)
  replace hc37 := odt hc37
  obtain ⟨hr0,hr1⟩ := hkr (by omega)
  obtain ⟨hh0,hh1⟩ := gI_range hk (Nat.le_of_lt hk1) hr0 hr1
  have hdN : dN (nAt l k) (foldTo dN l k) = max (d1 l[k] (foldTo dN l k)) (gI (foldTo dN l k) l[k].right + 1) := by rw [nAt_at hk1]; exact dN_two (by omega)
  refine Xv [14] (by kernel_rfl) ?_
  refine Jv 0 (TK := [box b1 _,rowl _ _ _ _ _ _,box b5 _]) U (by kernel_rfl) (by kernel_rfl) (by kernel_rfl) #[false,true,true,true,true,true,true,true,true,true,true,true,true,false,false] (by kernel_rfl) U (Ju (v := .slice (some _) _ _) U) U U U (Kc) (listed' := #[true,false,false,false,false,false,false,false,false,false,false,false,false,false,false]) U ?_
  refine Jv 1 (TK := [box b1 _,rowl _ _ _ _ _ _,box b5 _]) U (by kernel_rfl) (by kernel_rfl) (by kernel_rfl) #[true,false,true,true,true,true,true,true,true,true,true,true,true,false,false] (by kernel_rfl) U (Jf U) U U U (Kc) (listed' := #[true,true,false,false,false,false,false,false,false,false,false,false,false,false,false]) U ?_
  refine Jv 2 (TK := [box b1 _,rowl _ _ _ _ _ _,box b5 _]) U (by kernel_rfl) (by kernel_rfl) (by kernel_rfl) #[true,true,false,true,false,false,true,true,true,true,true,true,false,false,false] (by kernel_rfl) U (Ju (v := .slice (some _) _ _) U) U U U (Kc) (listed' := #[true,true,true,false,false,false,false,false,false,false,false,false,false,false,false]) U ?_
  refine Jv 3 (TK := [box b1 _,rowl _ _ _ _ _ _,box b5 _]) U (by kernel_rfl) (by kernel_rfl) (by kernel_rfl) #[true,true,true,false,false,false,true,true,true,true,true,true,false,false,false] (by kernel_rfl) U (Jf U) U U U (Kc) (listed' := #[true,true,true,true,false,false,false,false,false,false,false,false,false,false,false]) U ?_
  refine Jv 4 (TK := [box b1 _,rowl _ _ _ _ _ _,box b5 _]) U (by kernel_rfl) (by kernel_rfl) (by kernel_rfl) #[true,true,true,true,false,false,true,true,true,true,true,true,false,false,false] (by kernel_rfl) U (Jz (m := k) Tryz.underlying74 Tryz.sizeOf3 U U (by omega) (by omega) (by omega)) U U U (Kc) (listed' := #[true,true,true,true,true,false,false,false,false,false,false,false,false,false,false]) U ?_
  refine Jv 5 (TK := [box b1 _,rowl _ _ _ _ _ _,box b5 _]) U (by kernel_rfl) (by kernel_rfl) (by kernel_rfl) #[true,true,true,true,true,false,true,true,true,true,true,true,false,false,false] (by kernel_rfl) U (Jq Tryz.isAgg3 U (Mj 1 (f := intCells) (l := pad 0 ((foldTo dN l k) ++ [d1 l[k] (foldTo dN l k)]) l.length) U (by rw [Za (by simp [Mq]; omega)]) (fun _ => U) (pad_new (Mq k)) 0 _ U)) U U U (Kc) (listed' := #[true,true,true,true,true,true,false,false,false,false,false,false,false,false,false]) U ?_
  refine Jv 6 (TK := [box b1 _,rowl _ _ _ _ _ _,box b5 _]) U (by kernel_rfl) (by kernel_rfl) (by kernel_rfl) #[true,true,true,true,true,true,false,true,true,false,false,false,false,false,false] (by kernel_rfl) U (Ju (v := .slice (some _) _ _) U) U U U (Kc) (listed' := #[true,true,true,true,true,true,true,false,false,false,false,false,false,false,false]) U ?_
  refine Jv 7 (TK := [box b1 _,rowl _ _ _ _ _ _,box b5 _]) U (by kernel_rfl) (by kernel_rfl) (by kernel_rfl) #[true,true,true,true,true,true,true,false,false,false,false,false,false,false,false] (by kernel_rfl) U (Jc fa48_3 U) U U U (Kc) (listed' := #[true,true,true,true,true,true,true,true,false,false,false,false,false,false,false]) U ?_
  refine Jv 8 (TK := [box b1 _,rowl _ _ _ _ _ _,box b5 _]) U (by kernel_rfl) (by kernel_rfl) (by kernel_rfl) #[true,true,true,true,true,true,true,true,false,false,false,false,false,false,false] (by kernel_rfl) U (Jq Tryz.isAgg3 U (Jm 2 U U)) U U U (Kc) (listed' := #[true,true,true,true,true,true,true,true,true,false,false,false,false,false,false]) U ?_
  refine Jv 9 (TK := [box b1 _,rowl _ _ _ _ _ _,box b5 _]) U (by kernel_rfl) (by kernel_rfl) (by kernel_rfl) #[true,true,true,true,true,true,true,true,true,false,false,false,false,false,false] (by kernel_rfl) U (Jz (m := l[k].right.toNat) Tryz.underlying74 Tryz.sizeOf3 U U (by omega) (by omega) (by omega)) U U U (Kc) (listed' := #[true,true,true,true,true,true,true,true,true,true,false,false,false,false,false]) U ?_
  refine Jv 10 (TK := [box b1 _,rowl _ _ _ _ _ _,box b5 _]) U (by kernel_rfl) (by kernel_rfl) (by kernel_rfl) #[true,true,true,true,true,true,true,true,true,true,false,false,false,false,false] (by kernel_rfl) U (Jq Tryz.isAgg3 U (Mj 1 (f := intCells) (l := pad 0 ((foldTo dN l k) ++ [d1 l[k] (foldTo dN l k)]) l.length) U (by rw [Za (by simp [Mq]; omega)]) (fun _ => U) (by rw [pad_old (by simp [Mq]; omega),List.getElem?_append_left (by rw [Mq]; omega)]; exact gI_get (by rw [Mq]; omega)) 0 _ U)) U U U (Kc) (listed' := #[true,true,true,true,true,true,true,true,true,true,true,false,false,false,false]) U ?_
  refine Jv 11 (TK := [box b1 _,rowl _ _ _ _ _ _,box b5 _]) U (by kernel_rfl) (by kernel_rfl) (by kernel_rfl) #[true,true,true,true,true,true,true,true,true,true,true,false,false,false,false] (by kernel_rfl) U (Kr U U ⟨by omega,by omega⟩) U U U (Kc) (listed' := #[true,true,true,true,true,true,true,true,true,true,true,true,false,false,false]) U ?_
  refine Jv 12 (TK := [box b1 _,rowl _ _ _ _ _ _,box b5 _]) U (by kernel_rfl) (by kernel_rfl) (by kernel_rfl) #[true,true,true,true,true,true,true,true,true,true,true,true,false,false,false] (by kernel_rfl) U (y_max U U) U U U (Kc) (listed' := #[true,true,true,true,true,true,true,true,true,true,true,true,true,false,false]) U ?_
  refine Jv 13 (TK := [box b1 _,rowl _ _ _ _ _ _,box b5 _]) U (by kernel_rfl) (by kernel_rfl) (by kernel_rfl) #[true,true,true,true,true,true,true,true,true,true,true,true,true,false,false] (by kernel_rfl) U (Jz (m := k) Tryz.underlying74 Tryz.sizeOf3 U U (by omega) (by omega) (by omega)) U U U (Kc) (listed' := #[true,true,true,true,true,true,true,true,true,true,true,true,true,true,false]) U ?_
  refine Mr 14 (k' := 1) (listed' := #[true,true,true,true,true,true,true,true,true,true,true,true,true,true,true]) (by kernel_rfl) U U U ?_
  refine Mk 1 (f := intCells) (l := pad 0 ((foldTo dN l k) ++ [d1 l[k] (foldTo dN l k)]) l.length) (k := k) (o := 0) (v := .int _ _) (a := d1 l[k] (foldTo dN l k)) (a' := _) (fun _ => U) U U U Tryz.sizeOf3 U U U U (by rw [Za (by simp [Mq]; omega)]) (pad_new (Mq k)) (leb U) U U ?_
  refine Ja ?_
  refine Mo (TK := []) U (Qn) ?_
  refine Qd (by kernel_rfl) ?_
  refine hN7 _ _ (gT [box b1 _,rowl _ _ _ _ _ _,box b5 _] U (Jb [(3,.slice (some _) _ _),(11,.slice _ _ _),(12,.int _ _),(13,.int _ _)] ⟨U,U,U,U,O⟩ fun σ => Jk (Jd (Kr U U ⟨by omega,by omega⟩) U U U (Jd (Jf U) U U U (Ja ?_)))))
  rw [pad_set2 (Mq k),← hdN]
  refine Kt (k + 1) (by omega) (show k + 1 ≤ _ by omega) ⟨U,O⟩ ⟨U,U,U,O⟩ ⟨_,U⟩
  replace hc37 := odf hc37
  have hdN : dN (nAt l k) (foldTo dN l k) = d1 l[k] (foldTo dN l k) := by rw [nAt_at hk1]; exact dN_one (by omega)
  refine Jw (hN7 _ _ (Jb [(3,.slice (some _) _ _),(11,.slice _ _ _),(12,.int _ _),(13,.int _ _)] ⟨U,U,U,U,O⟩ fun σ => Jk (Jd (Kr U U ⟨by omega,by omega⟩) U U U (Jd (Jf U) U U U (Ja ?_)))))
  rw [← hdN]
  refine Kt (k + 1) (by omega) (show k + 1 ≤ _ by omega) ⟨U,O⟩ ⟨U,U,U,O⟩ ⟨_,U⟩
  replace hc14 := odf hc14
  refine Mx ?_
  refine hN3 _ _ (Jb [(3,.slice (some _) _ _)] ⟨U,O⟩ fun σ => Jg fun N13 hN13 => Jk (Jd (Ju (v := .slice (some _) _ _) U) U U U (Jd (Ju (v := .slice (some _) _ _) U) U U U (Jd (Ks Tryz.underlying74 U) U U U (Jd (Zi U U ⟨by omega,by omega⟩) U U U (Jd (Jz (m := l.length - 1) Tryz.underlying74 Tryz.sizeOf3 U U (by omega) (by omega) (by omega)) U U U (Jd (Jq Tryz.isAgg3 U (Mj 1 (f := intCells) (l := pad 0 (foldTo dN l k) l.length) U (by rw [Za (by rw [Mq]; omega)]) (fun _ => U) (by rw [pad_old (by rw [Mq]; omega),UJ _ _ (by omega)]) 0 _ U)) U U U (Jd (Jh U) U U U ?_))))))))
  refine Ja (hN13 _ _ (Jb [(2,.int _ _)] ⟨U,O⟩ fun σ => ?_))
  refine Ke fun w1 hM => ?_
  refine ⟨_,res1 rfl (rt (v := .int _ _) rfl),?_⟩
  exact ⟨rfl,hM.low⟩
end Go.Proofs.YtbkameioedmlkaaGreatDoor
namespace Go.Cf
open Go.RowKit
def AtoiEnd (s : ByteArray) (n : Int) (er : Value) (b : Bool) : Prop := (er = .nilIface ∧ b = false ∧ Lib.atoiAll s.data.toList = .ok n) ∨ ((∃ t p, er = .iface t p) ∧ b = true ∧ numV s = none)
theorem AtoiEnd.ok {s : ByteArray} {n : Int} {er : Value} {b : Bool} (h : AtoiEnd s n er b) (hb : b = false) : Lib.atoiAll s.data.toList = .ok n := by
  rcases h with ⟨_, _, h⟩ | ⟨_, h, _⟩
  · exact h
  · rw [h] at hb; cases hb
theorem num_bad {s : ByteArray} {n : Int} {er : Value} {b : Bool} (h : AtoiEnd s n er b) (hb : b = true ∨ baL (Lib.itoa n) ≠ s) : numV s = none := by
  rcases h with ⟨_, h1, h2⟩ | ⟨_, _, h2⟩
  · rcases hb with hb | hb
    · rw [h1] at hb; cases hb
    · rw [numV, h2]
      exact if_neg (fun h9 => hb (by rw [h9]; rfl))
  · exact h2
theorem num_good {s : ByteArray} {n : Int} {er : Value} {b : Bool} (h : AtoiEnd s n er b) (hb : b = false) (h2 : baL (Lib.itoa n) = s) : numV s = some n := by
  rw [numV, h.ok hb]
  exact if_pos (by rw [← h2, baL_data])
theorem mem_nil {w w' : World} (h : Below w.heap.size w w') : Mem w [] w' := ⟨h, by simp, by simp, by simp, List.Pairwise.nil⟩
section
variable {P : Program} {w0 : World} {T : List Reg} {ρ : Env} {dst : Option Tmp} {ty t yt : TypeId} {pos : String} {af : Array Edge} {gd : Option (Nat × Bool)} {x y : Operand}
theorem y_errne {y' : Value} {s : ByteArray} {n : Int} {er : Value} {b : Bool} (ht : P.isIface t = true) (h : AtoiEnd s n er b) (hx : ev ρ x = er) (hy : ev ρ (.const y') = .nilIface) : Yield P w0 T ρ ⟨dst, .binOp .neq t x (.const y') yt, ty, pos, af, gd⟩ (.bool b) := fun w _ => by
  rcases h with ⟨rfl, rfl, _⟩ | ⟨⟨te, pe, rfl⟩, rfl, _⟩
  · have h9 := run_neq_nil_nil_at (P := P) w t ht
    simp [execOp, go_sem, hx, hy, h9]
  · have h9 := run_neq_iface_nil (P := P) w t ht te pe
    simp [execOp, go_sem, hx, hy, h9]
end
theorem var_below {P : Program} {B g : Nat} {w w' : World} {n : String} {cs : Array Value} (h : Below B w w') (hg : P.globalNamed n = some g) (hgB : g < B) (hv : w.var? P n = some cs) : w'.var? P n = some cs := by
  unfold World.var? at hv ⊢
  simp only [hg, Option.bind_some] at hv ⊢
  rw [h.block g hgB]
  exact hv
end Go.Cf
namespace Go.Proofs.YtbkameioedmlkaaGreatDoor
open Go.RowKit Go.Cf
structure LaidP (w : World) : Prop where
  tab : Lib.TabIs Tryz.prog w "internal/strconv.uint64pow10" .u64 Lib.pow10Tab
  syn : ∃ te pe, w.cell? ⟨3, 0, none⟩ = some (.iface te pe)
  rng : ∃ te pe, w.cell? ⟨4, 0, none⟩ = some (.iface te pe)
  size : 6 ≤ w.heap.size
theorem LaidP.below {w w' : World} {B : Nat} (h : LaidP w) (hb : Below B w w') (hB : 6 ≤ B) : LaidP w' := by
  obtain ⟨te, pe, h1⟩ := h.syn
  obtain ⟨tr, pr, h2⟩ := h.rng
  refine ⟨?_, ⟨te, pe, ?_⟩, ⟨tr, pr, ?_⟩, Nat.le_trans h.size hb.size⟩
  · have hg : Tryz.prog.globalNamed "internal/strconv.uint64pow10" = some 5 := by kernel_rfl
    exact var_below hb hg (by omega) h.tab
  · rw [hb.cell (by show 3 < B; omega)]; exact h1
  · rw [hb.cell (by show 4 < B; omega)]; exact h2
theorem LaidP.base {w0 w : World} {T : List Reg} (h : LaidP w0) (hM : Mem w0 T w) : LaidP w := h.below hM.low h.size
theorem itoa_any (w : World) (n : Int) (h0 : -9223372036854775808 ≤ n) (h1 : n ≤ 9223372036854775807) (hL : LaidP w) : Calls Tryz.prog 144 #[.int .i64 n] w fun e w' => e = .returned (.string (baL (Lib.itoa n))) ∧ Below w.heap.size w w' :=
  (Tryz.strconv_Itoa n h0 h1 w hL.tab).mono fun _ _ ⟨h1, k, os, h2⟩ => ⟨h1, by rw [h2]; exact Lib.below_grow _ w (Nat.le_refl _) k os⟩
theorem atoi_any (w : World) (s : ByteArray) (hs : s.size ≤ 4000000) (hL : LaidP w) : Calls Tryz.prog 143 #[.string s] w fun e w' => ∃ n er b, e = .returned (.tuple #[.int .i64 n, er]) ∧ AtoiEnd s n er b ∧ Below w.heap.size w w' := by
  rcases h : Lib.atoiAll s.data.toList with v | _ | _
  ·
    refine (Tryz.strconv_Atoi_ok s (by omega) v h w).mono fun _ _ ⟨h1, h2⟩ => ⟨_, _, false, h1, .inl ⟨rfl, rfl, h⟩, ?_⟩
    rcases h2 with rfl | ⟨t, rfl⟩
    · exact Below.refl _ _
    · exact Lib.bytesWorld_below _ _ _
  ·
    obtain ⟨te, pe, hv⟩ := hL.syn
    exact (Tryz.strconv_Atoi_syntax s (by omega) h _ w hv (.inr ⟨te, pe, rfl⟩)).mono fun _ _ ⟨N, h1, _, _, h2⟩ => ⟨_, _, true, h1, .inr ⟨⟨_, _, rfl⟩, rfl, by rw [numV, h]⟩, h2⟩
  ·
    obtain ⟨te, pe, hv⟩ := hL.rng
    exact (Tryz.strconv_Atoi_range s (by omega) h _ w hv (.inr ⟨te, pe, rfl⟩)).mono fun _ _ ⟨N, h1, _, _, h2⟩ => ⟨_, _, true, h1, .inr ⟨⟨_, _, rfl⟩, rfl, by rw [numV, h]⟩, h2⟩
end Go.Proofs.YtbkameioedmlkaaGreatDoor
namespace Go.Proofs.YtbkameioedmlkaaGreatDoor
open Go.RowKit Go.Cf
set_option maxRecDepth 10000
theorem fa122_0 (a : Addr) (w : World) : (Instr.fieldAt 122 (.pointer (some a)) 0).run Tryz.prog w = .ok (.pointer (some (a.add 0))) w := by kernel_rfl
theorem el48 : Elem Tryz.prog 48 4 32 := Xz (z := .agg #[.int .i64 0, .int .i64 0, .int .i64 0, .int .i64 0]) (by kernel_rfl) rfl (by decide)
theorem bd43_0 (x1 : Option Addr) (x1l x1c : Nat) : Tryz.prog.built 43 [(0, .slice x1 x1l x1c)] = some #[.slice x1 x1l x1c] := by kernel_rfl
theorem bd43_  : Tryz.prog.built 43 [] = some #[.slice none 0 0] := by kernel_rfl
set_option maxHeartbeats 4000000 in
theorem polMade1_any (w : World) (bg bc : Nat) (B : Option Addr) (t : Tr) (hto : t.ok) (hsz : t.size ≤ 1000) (hcell : w.cell? ⟨bg, 0, none⟩ = some (.slice B (post t 0).length bc)) (hrd : Rdl w 0 4 pnCells B (post t 0)) (hlc : (post t 0).length ≤ bc) (hcm : bc ≤ maxLen) : Calls Tryz.prog 57 #[.pointer (some ⟨bg, 0, none⟩)] w fun e w' => e = .returned (.tuple #[.agg #[.slice (if 24 < (t).size ∨ 12 < (t).depth then none else B) (if 24 < (t).size ∨ 12 < (t).depth then 0 else (post t 0).length) (if 24 < (t).size ∨ 12 < (t).depth then 0 else bc)], fv (madeR t).1]) ∧ Below w.heap.size w w' := by
 have hpl := Ql t 0
 have hps := t.pos
 have hdd := depL_post hto
 refine Kz Tryz.func57 U Tryz.ntmps57 (leb U) ?_
 refine Jb [(0,.pointer (some ⟨bg,0,none⟩))] ⟨U,O⟩ fun σ => Jg fun N1 hN1 => Jk ?_
 refine Ka (cs := #[.slice none 0 0]) Tryz.zeroValue43 U U (fun b2 hb2 => ?_)
 refine Ka (cs := #[.int .i64 0,.int .i64 0]) Tryz.zeroValue33 U U (fun b3 hb3 => ?_)
 refine Ja (hN1 _ _ (gT [box b2 _,box b3 _] U (Jb [(0,.pointer (some ⟨bg,0,none⟩)),(2,.pointer _),(3,.pointer _)] ⟨U,U,U,O⟩ fun σ => Jg fun N2 hN2 => Jk (Jd (Ju (v := .pointer (some ⟨bg,0,none⟩)) U) U U U (Jd (Jy U) U U U (Jd (Jc fa122_0 U) U U U (Jd (Jq Tryz.isAgg41 U (Ms hcell)) U U U (Jd (Kd (vs := [(0,.slice _ _ _)]) (cells := #[_]) U (bd43_0 _ _ _)) U U U ?_))))))))
 refine Ka (cs := #[.slice none 0 0]) Tryz.zeroValue43 U U (fun b4 hb4 => ?_)
 refine Jr 2 (v := .agg #[_]) (cs' := #[_]) U U Tryz.sizeOf43 U U U U (leb U) U U (Ja (hN2 _ _ (gT [box b2 _,box b3 _,box b4 _] U (Jb [(2,.pointer _),(3,.pointer _),(4,.pointer _)] ⟨U,U,U,O⟩ fun σ => Jg fun N3 hN3 => Jg fun N4 hN4 => Jk (Jd (Jc fa43_0 U) U U U (Jd (Jq Tryz.isAgg41 U (Jm 2 U U)) U U U (Jd (Ks Tryz.underlying41 U) U U U (Jd (Mh U U) U U U ?_))))))))
 refine Jd (Jn U) U U U ?_
 refine Kh (want := false) U U U U U U (fun hg14 => ?_) (fun hg14 => ?_)
 have hg14d := odf hg14
 refine Jd (Je (Kk (cs := [_]) Tryz.isAgg43 Tryz.sizeOf43 U U (Kf 2 U))) U U U (Js U U U U hg14 ?_)
 refine Km (Kb (vs := [.agg #[_]]) Tryz.func68 U (by kernel_rfl) U) (fun w hM => polDepth_any w B bc (post t 0) (hrd.base hM) hlc hcm (by omega) (by omega) (linked_post hto)) U U U ?_
 refine Js U U U U hg14 (Jd (Je (Mh U U)) U U U (Jd (Jp U hg14 U) U U U (Ja (hN4 _ _ (Jb [(2,.pointer _),(3,.pointer _),(4,.pointer _),(18,.bool _)] ⟨U,U,U,U,O⟩ fun σ => ?_)))))
 refine Jt (b := _) U (fun hc18 => ?_) (fun hc18 => ?_)
 replace hc18 := odt hc18
 have hB : 24 < t.size ∨ 12 < t.depth := by omega
 have hF : (madeR t).1 = ⟨10,-1⟩ := by rw [madeR,if_pos hB]
 refine Jg fun N5 hN5 => Jk (Jd (Kd (vs := []) (cells := #[.slice none 0 0]) U bd43_) U U U (Jd (Kd (vs := [(0,_),(1,_)]) (cells := #[_,_]) U (Ma _ _)) U U U (Jr 0 (v := .agg #[_]) (cs' := #[_]) U U Tryz.sizeOf43 U U U U (leb U) U U (Jr 1 (v := .agg #[_,_]) (cs' := #[_,_]) U U Tryz.sizeOf33 U U U U (leb U) U U (Ja (hN5 _ _ (gT [box b2 _,box b3 _,box b4 _] U (Jb [(2,.pointer _),(3,.pointer _)] ⟨U,U,O⟩ fun σ => ?_))))))))
 refine Ke fun w1 hM => ?_
 refine ⟨_,res2 rfl (rc 0 (cs := [_]) hM rfl rfl Tryz.isAgg43 Tryz.sizeOf43 rfl) (rc 1 (cs := [_,_]) hM rfl rfl Tryz.isAgg33 Tryz.sizeOf33 rfl),?_⟩
 exact ⟨by rw [hF]; first | (simp only [if_pos hB]; done) | (simp only [if_neg hB]; done),hM.low⟩
 replace hc18 := odf hc18
 have hB : ¬ (24 < t.size ∨ 12 < t.depth) := by omega
 have hF : (madeR t).1 = ⟨0,0⟩ := by rw [madeR,if_neg hB]
 refine Jw (hN3 _ _ (Jb [(2,.pointer _),(3,.pointer _),(4,.pointer _)] ⟨U,U,U,O⟩ fun σ => Jg fun N6 hN6 => Jk (Jd (Kk (cs := [_]) Tryz.isAgg43 Tryz.sizeOf43 U U (Kf 2 U)) U U U (Jd (Kd (vs := []) (cells := #[.int .i64 0,.int .i64 0]) U Qh) U U U (Jr 0 (v := .agg #[_]) (cs' := #[_]) U U Tryz.sizeOf43 U U U U (leb U) U U (Jr 1 (v := .agg #[_,_]) (cs' := #[_,_]) U U Tryz.sizeOf33 U U U U (leb U) U U (Ja (hN6 _ _ ?_))))))))
 refine gT [box b2 _,box b3 _,box b4 _] U (Jb [(2,.pointer _),(3,.pointer _)] ⟨U,U,O⟩ fun σ => ?_)
 refine Ke fun w1 hM => ?_
 refine ⟨_,res2 rfl (rc 0 (cs := [_]) hM rfl rfl Tryz.isAgg43 Tryz.sizeOf43 rfl) (rc 1 (cs := [_,_]) hM rfl rfl Tryz.isAgg33 Tryz.sizeOf33 rfl),?_⟩
 exact ⟨by rw [hF]; first | (simp only [if_pos hB]; done) | (simp only [if_neg hB]; done),hM.low⟩
 have hg14d := odt hg14
 refine Jj U U U U hg14 U U (Jj U U U U hg14 U U (Jd (Jo U hg14 U) U U U (Ja (hN4 _ _ (Jb [(2,.pointer _),(3,.pointer _),(4,.pointer _),(18,.bool _)] ⟨U,U,U,U,O⟩ fun σ => ?_)))))
 refine Jt (b := _) U (fun hc18 => ?_) (fun hc18 => ?_)
 have hB : 24 < t.size ∨ 12 < t.depth := by omega
 have hF : (madeR t).1 = ⟨10,-1⟩ := by rw [madeR,if_pos hB]
 refine Jg fun N7 hN7 => Jk (Jd (Kd (vs := []) (cells := #[.slice none 0 0]) U bd43_) U U U (Jd (Kd (vs := [(0,_),(1,_)]) (cells := #[_,_]) U (Ma _ _)) U U U (Jr 0 (v := .agg #[_]) (cs' := #[_]) U U Tryz.sizeOf43 U U U U (leb U) U U (Jr 1 (v := .agg #[_,_]) (cs' := #[_,_]) U U Tryz.sizeOf33 U U U U (leb U) U U (Ja (hN7 _ _ (gT [box b2 _,box b3 _,box b4 _] U (Jb [(2,.pointer _),(3,.pointer _)] ⟨U,U,O⟩ fun σ => ?_))))))))
 refine Ke fun w1 hM => ?_
 refine ⟨_,res2 rfl (rc 0 (cs := [_]) hM rfl rfl Tryz.isAgg43 Tryz.sizeOf43 rfl) (rc 1 (cs := [_,_]) hM rfl rfl Tryz.isAgg33 Tryz.sizeOf33 rfl),?_⟩
 exact ⟨by rw [hF]; first | (simp only [if_pos hB]; done) | (simp only [if_neg hB]; done),hM.low⟩
 cases hc18
end Go.Proofs.YtbkameioedmlkaaGreatDoor
namespace Go.Cf
open Go.RowKit
theorem byteAtP_lt (s : ByteArray) (j : Nat) : byteAt s j < 256 := (s.data.toList[j]?.getD 0).toNat_lt
theorem JZ (s : ByteArray) (j : Nat) : firstIdx ⟨#[32, 40, 41]⟩ (((byteAt s j : Nat) : Int).toNat.toUInt8) < 0 ↔ woB s j = true := by
  have h1 := firstIdx_nonneg ⟨#[32, 40, 41]⟩ (((byteAt s j : Nat) : Int).toNat.toUInt8)
  obtain ⟨c, hc⟩ : ∃ c, ((byteAt s j : Nat) : Int).toNat.toUInt8 = c := ⟨_, rfl⟩
  have hb : c.toNat = byteAt s j := by
    rw [← hc, Int.toNat_natCast]
    show (UInt8.ofNat (byteAt s j)).toNat = _
    rw [UInt8.toNat_ofNat']
    have := byteAtP_lt s j
    omega
  rw [hc] at h1 ⊢
  have e : (([32, 40, 41] : List UInt8).any (· == c)) = !woB s j := by
    have q : ∀ d : UInt8, (d == c) = decide (d.toNat = byteAt s j) := fun d => by
      rw [← hb]
      by_cases h : d = c
      · subst h; simp
      · rw [beq_eq_false_iff_ne.2 h]
        exact (decide_eq_false (fun h2 => h (UInt8.toNat_inj.1 h2))).symm
    simp only [List.any_cons, List.any_nil, q, woB]
    have e1 : (32 : UInt8).toNat = 32 := rfl
    have e2 : (40 : UInt8).toNat = 40 := rfl
    have e3 : (41 : UInt8).toNat = 41 := rfl
    rw [e1, e2, e3]
    by_cases a1 : byteAt s j = 32 <;> by_cases a2 : byteAt s j = 40 <;> by_cases a3 : byteAt s j = 41 <;> simp_all <;> omega
  have h2 : decide (0 ≤ firstIdx ⟨#[32, 40, 41]⟩ c) = !woB s j := h1.trans e
  constructor
  · intro h
    have : decide (0 ≤ firstIdx ⟨#[32, 40, 41]⟩ c) = false := decide_eq_false (by omega)
    rw [this] at h2
    simpa using h2.symm
  · intro h
    rw [h] at h2
    have := of_decide_eq_false h2
    omega
structure RS (s : ByteArray) (at_ : Nat) (ts : List Tk) : Prop where
  ts : ts = tks s at_
  sk : skipW s at_ = at_
  le : at_ ≤ s.size
section
variable {s : ByteArray} {a : Nat} {ts : List Tk}
theorem RS.hd (h : RS s a ts) : s.extract a (nextW s a) = hd ts := by
  rw [h.ts]
  by_cases h1 : a < s.size
  · rw [Xl (by rw [h.sk]; exact h1), h.sk]; rfl
  · have : a = s.size := by have := h.le; omega
    rw [Xq (by rw [h.sk]; exact h1), this, next_end]
    show s.extract s.size s.size = ⟨#[]⟩
    apply ByteArray.ext
    simp
theorem RS.pos (h : RS s a ts) : pos s.size ts = a := by
  rw [h.ts]
  by_cases h1 : a < s.size
  · rw [Xl (by rw [h.sk]; exact h1), h.sk]; rfl
  · have : a = s.size := by have := h.le; omega
    rw [Xq (by rw [h.sk]; exact h1), this]; rfl
theorem RS.next (h : RS s a ts) : RS s (skipW s (nextW s a)) ts.tail := by
  refine ⟨?_, Yj _ _, skip_le (next_le h.le)⟩
  rw [h.ts, tks_skip]
  by_cases h1 : a < s.size
  · rw [Xl (by rw [h.sk]; exact h1), h.sk]; rfl
  · have : a = s.size := by have := h.le; omega
    rw [Xq (by rw [h.sk]; exact h1), this, next_end]
    rw [Xq (by have := JY s s.size; omega)]; rfl
theorem RS.nil (h : RS s a ts) : ts = [] ↔ ¬ a < s.size := by
  rw [h.ts]
  by_cases h1 : a < s.size
  · rw [Xl (by rw [h.sk]; exact h1)]; simp [h1]
  · rw [Xq (by rw [h.sk]; exact h1)]; simp [h1]
theorem RS.len (h : RS s a ts) : ts.length ≤ s.size := by rw [h.ts]; exact Nat.le_trans (tks_len s _ a rfl) (by omega)
end
theorem RS.start (s : ByteArray) : RS s (skipW s 0) (tks s 0) := ⟨(tks_skip s 0).symm, Yj _ _, skip_le (Nat.zero_le _)⟩
theorem Xm (a b : ByteArray) : (a.toList == b.toList) = decide (a = b) := by
  by_cases h : a = b
  · subst h; simp
  · rw [decide_eq_false h, beq_eq_false_iff_ne]
    intro h2
    apply h
    rw [ByteArray.toList_eq, ByteArray.toList_eq] at h2
    apply ByteArray.ext
    exact Array.toList_inj.1 h2
def POK (s : ByteArray) (R : Res) (o : List PN) (code : Int) (x : Int) (b : Bool) (o' : List PN) (a' : Nat) (code' : Int) : Prop := match R with
  | .bad c p => b = false ∧ a' = p ∧ code' = c ∧ o'.length ≤ 1000
  | .ok t ts => b = true ∧ x = ((o.length + t.size : Nat) : Int) - 1 ∧ o' = o ++ post t o.length ∧ RS s a' ts ∧ code' = code
theorem pok_yes {s : ByteArray} {R : Res} {o o' : List PN} {code code' x : Int} {a' : Nat} {b : Bool} (h : POK s R o code x b o' a' code') (hb : b = true) : ∃ t ts, R = .ok t ts ∧ x = ((o.length + t.size : Nat) : Int) - 1 ∧ o' = o ++ post t o.length ∧ RS s a' ts ∧ code' = code := by
  cases R with
  | bad c p => rw [POK, hb] at h; exact absurd h.1 (by decide)
  | ok t ts => exact ⟨t, ts, rfl, h.2⟩
theorem pok_no {s : ByteArray} {R : Res} {o o' : List PN} {code code' x : Int} {a' : Nat} {b : Bool} (h : POK s R o code x b o' a' code') (hb : b = false) : R = .bad code' a' ∧ o'.length ≤ 1000 := by
  cases R with
  | bad c p => obtain ⟨_, h1, h2, h3⟩ := h; rw [h1, h2]; exact ⟨rfl, h3⟩
  | ok t ts => rw [POK, hb] at h; exact absurd h.1 (by decide)
theorem Xt {s : ByteArray} {o o' : List PN} {code x : Int} {R : Res} {c : Int} {a' : Nat} (h : R = .bad c a') (h2 : o'.length ≤ 1000) : POK s R o code x false o' a' c := by
  rw [h]; exact ⟨rfl, rfl, rfl, h2⟩
theorem pok_ok {s : ByteArray} {o o' : List PN} {code x : Int} {R : Res} {t : Tr} {ts : List Tk} {a' : Nat} (h : R = .ok t ts) (h1 : x = ((o.length + t.size : Nat) : Int) - 1) (h2 : o' = o ++ post t o.length) (h3 : RS s a' ts) : POK s R o code x true o' a' code := by
  rw [h]; exact ⟨rfl, h1, h2, h3, rfl⟩
end Go.Cf
namespace Go.Cf
theorem pok_bad2 {s : ByteArray} {o o' : List PN} {code x : Int} {R : Res} {c : Int} {a' : Nat} {b : Bool} (hb : b = false) (h : R = .bad c a') (h2 : o'.length ≤ 1000) : POK s R o code x b o' a' c := by
  subst hb; exact Xt h h2
theorem pok_ok2 {s : ByteArray} {o o' : List PN} {code x : Int} {R : Res} {t : Tr} {ts : List Tk} {a' : Nat} {b : Bool} (hb : b = true) (h : R = .ok t ts) (h1 : x = ((o.length + t.size : Nat) : Int) - 1) (h2 : o' = o ++ post t o.length) (h3 : RS s a' ts) : POK s R o code x b o' a' code := by
  subst hb; exact pok_ok h h1 h2 h3
end Go.Cf
namespace Go.Cf
def LI (s : ByteArray) (lv n : Nat) (R : Res) (o : List PN) (code : Int) (m : Nat) (x : Int) (b : Bool) (o1 : List PN) (a1 : Nat) (code1 : Int) : Prop :=
  m ≤ n ∧ ((b = false ∧ R = .bad code1 a1 ∧ o1.length ≤ 1000) ∨ (b = true ∧ ∃ t us, x = ((o.length + t.size : Nat) : Int) - 1 ∧ o1 = o ++ post t o.length ∧ RS s a1 us ∧ code = code1 ∧ R = rd s.size m lv (some t) us ∧ 3 * us.length + 1 ≤ m ∧ o.length + t.size + us.length ≤ 800))
theorem li_start {s : ByteArray} {lv n : Nat} {R : Res} {o o1 : List PN} {code code1 x : Int} {b : Bool} {a1 : Nat} {ts : List Tk} (hR : R = bindR (rd s.size n (lv + 1) none ts) fun t us => rd s.size n lv (some t) us) (hlv : lv < 2) (hfu : 3 * ts.length + 3 ≤ n + 1 + lv) (hol : o.length + ts.length ≤ 800)
    (hp : POK s (rd s.size n (lv + 1) none ts) o code x b o1 a1 code1) : LI s lv n R o code n x b o1 a1 code1 := by
  refine ⟨Nat.le_refl _, ?_⟩
  cases hb : b with
  | false =>
    obtain ⟨h1, h2⟩ := pok_no hp hb
    exact .inl ⟨rfl, by rw [hR, h1]; rfl, h2⟩
  | true =>
    obtain ⟨t, us, h1, h2, h3, h4, h5⟩ := pok_yes hp hb
    obtain ⟨_, h6⟩ := Zr s.size n _ none _ _ _ (fun _ h => by cases h) h1
    have := t.pos
    simp only [Option.map, Option.getD] at h6
    exact .inr ⟨rfl, t, us, h2, h3, h4, h5.symm, by rw [hR, h1]; rfl, by omega, by omega⟩
theorem li_bad {s : ByteArray} {lv n m : Nat} {R : Res} {o o1 : List PN} {code code1 x : Int} {b : Bool} {a1 : Nat} (h : LI s lv n R o code m x b o1 a1 code1) (hb : b = false) : R = .bad code1 a1 ∧ o1.length ≤ 1000 := by
  rcases h.2 with h | h
  · exact h.2
  · rw [h.1] at hb; cases hb
theorem li_ok {s : ByteArray} {lv n m : Nat} {R : Res} {o o1 : List PN} {code code1 x : Int} {b : Bool} {a1 : Nat} (h : LI s lv n R o code m x b o1 a1 code1) (hb : b = true) : ∃ t us, x = ((o.length + t.size : Nat) : Int) - 1 ∧ o1 = o ++ post t o.length ∧ RS s a1 us ∧ code = code1 ∧ R = rd s.size m lv (some t) us ∧ 3 * us.length + 1 ≤ m ∧ o.length + t.size + us.length ≤ 800 := by
  rcases h.2 with h | h
  · rw [h.1] at hb; cases hb
  · exact h.2
end Go.Cf
namespace Go.Proofs.YtbkameioedmlkaaGreatDoor
open Go.RowKit Go.Cf
set_option maxRecDepth 10000
theorem Qp (a : Addr) (w : World) : (Instr.fieldAt 124 (.pointer (some a)) 3).run Tryz.prog w = .ok (.pointer (some (a.add 3))) w := by kernel_rfl
theorem Uc (a : Addr) (w : World) : (Instr.fieldAt 124 (.pointer (some a)) 2).run Tryz.prog w = .ok (.pointer (some (a.add 2))) w := by kernel_rfl
theorem Ws (a : Addr) (w : World) : (Instr.fieldAt 124 (.pointer (some a)) 1).run Tryz.prog w = .ok (.pointer (some (a.add 1))) w := by kernel_rfl
set_option maxHeartbeats 8000000 in
theorem QW (w0 w : World) (rg n bc : Nat) (B : Option Addr) (s : ByteArray) (code : Int) (fr : Reg) (hs : s.size ≤ 200) (a x : Int) (nx : Nat) (hx : x = (nx : Int)) (hnx : nx ≤ s.size) (hM0 : Mem w0 [box rg (.cells #[.slice B n bc, .string s, .int .i64 (a), .int .i64 (x), .int .i64 code] 124), fr] w) : Calls Tryz.prog 54 #[.pointer (some ⟨rg, 0, none⟩)] w fun e w' => e = .returned (.tuple #[]) ∧ Mem w0 [box rg (.cells #[.slice B n bc, .string s, .int .i64 ((skipW s nx : Nat)), .int .i64 ((nextW s (skipW s nx) : Nat)), .int .i64 code] 124), fr] w' := by
 subst hx
 refine gcallsT Tryz.func54 U Tryz.ntmps54 (leb U) hM0 ?_
 refine Jb [(0,.pointer (some ⟨rg,0,none⟩))] ⟨U,O⟩ fun σ => Jg fun N1 hN1 => Jk (Jd (Ju (v := .pointer (some ⟨rg,0,none⟩)) U) U U U (Jd (Ju (v := .pointer (some ⟨rg,0,none⟩)) U) U U U (Jd (Jy U) U U U (Jd (Jc Qp U) U U U (Jd (Jq Tryz.isAgg3 U (Jm 0 U U)) U U U (Jd (Jy U) U U U (Jd (Jc Uc U) U U U (Jr 0 (v := .int _ _) (cs' := #[_,_,_,_,_]) U U Tryz.sizeOf3 U U U U (leb U) U U ?_))))))))
 refine Ja (hN1 _ _ (gT [box rg _,fr] U (Jb [(0,.pointer (some ⟨rg,0,none⟩))] ⟨U,O⟩ fun σ => Jg fun N2 hN2 => Kn ?_)))
 refine Mm [] [(0,.pointer (some ⟨rg,0,none⟩))] trivial ⟨U,O⟩ fun σ => ?_
 refine Ml (G := Nat) (fun j => j ≤ s.size ∧ skipW s j = skipW s nx) (fun j => s.size - j) (fun j => []) (fun j => [(0,box rg (.cells #[.slice B n bc,.string s,.int .i64 ((j : Nat)),.int .i64 ((nx : Nat)),.int .i64 code] 124))]) (nx) ?h0 trivial ⟨U,O⟩ U ?round
 case h0 => exact ⟨hnx,rfl⟩
 case round =>
  intro j hφ σ
  obtain ⟨hj,hjs⟩ := hφ
  refine gT [box rg _,fr] U (Jg fun N3 hN3 => Jg fun N4 hN4 => ?_)
  refine Qx (by kernel_rfl) (by kernel_rfl) ?_
  refine gq (Ju (v := .pointer (some ⟨rg,0,none⟩)) U) U U U (gq (Jy U) U U U (gq (Jc Uc U) U U U (gq (Jq Tryz.isAgg3 U (Jm 0 U U)) U U U (gq (Ju (v := .pointer (some ⟨rg,0,none⟩)) U) U U U (gq (Jy U) U U U (gq (Jc Ws U) U U U (gq (Jq Tryz.isAgg9 U (Jm 0 U U)) U U U (gq (Qt Tryz.underlying9 U) U U U ?_))))))))
  refine gq (Me U U) U U U (gq (Jn U) U U U ?_)
  refine Xb (want := true) U U U U U U (fun hg19 => ?_) (fun hg19 => ?_)
  have hg19d := odt hg19
  refine gq (Je (Ju (v := .pointer (some ⟨rg,0,none⟩)) U)) U U U (Kp U U U U hg19 (gq (Je (Jy U)) U U U (Kp U U U U hg19 (gq (Je (Jc Ws U)) U U U (Kp U U U U hg19 (gq (Je (Jq Tryz.isAgg9 U (Jm 0 U U))) U U U (Kp U U U U hg19 (gq (Je (Ju (v := .pointer (some ⟨rg,0,none⟩)) U)) U U U ?_))))))))
  refine Kp U U U U hg19 (gq (Je (Jy U)) U U U (Kp U U U U hg19 (gq (Je (Jc Uc U)) U U U (Kp U U U U hg19 (gq (Je (Jq Tryz.isAgg3 U (Jm 0 U U))) U U U (Kp U U U U hg19 (gq (Je (Uu (m := j) Tryz.underlying9 U U (by omega) (by omega) (by omega))) U U U (Kp U U U U hg19 ?_))))))))
  refine gq (Je (Mc U U)) U U U (gq (Jo U hg19 U) U U U ?_)
  refine Mn ?_
  refine hN4 _ _ (Jb [(0,.pointer (some ⟨rg,0,none⟩)),(30,.bool _)] ⟨U,U,O⟩ fun σ => ?_)
  refine Jt (b := _) U (fun hc30 => ?_) (fun hc30 => ?_)
  replace hc30 := odt hc30
  have hj1 : j < s.size := by omega
  have hb : spB s j = true := decide_eq_true (by omega)
  refine Jw (hN3 _ _ (Jb [(0,.pointer (some ⟨rg,0,none⟩))] ⟨U,O⟩ fun σ => Kn (Jk (Jd (Ju (v := .pointer (some ⟨rg,0,none⟩)) U) U U U (Jd (Jy U) U U U (Jd (Jc Uc U) U U U (Jd (Jq Tryz.isAgg3 U (Jm 0 U U)) U U U (Jd (Kr U U ⟨by omega,by omega⟩) U U U ?_))))))))
  refine Jd (Jy U) U U U (Jd (Jc Uc U) U U U (Jr 0 (v := .int _ _) (cs' := #[_,_,_,_,_]) U U Tryz.sizeOf3 U U U U (leb U) U U (Ja ?_)))
  refine Kt (j + 1) (by omega) (⟨by show j + 1 ≤ _; omega,by rw [← hjs]; exact (run_step hj1 hb).symm⟩) trivial ⟨U,O⟩ ⟨_,U⟩
  replace hc30 := odf hc30
  have hat : skipW s nx = j := by rw [← hjs]; exact Wc (fun h => decide_eq_false (by omega))
  refine Mx ?_
  refine hN2 _ _ (Jb [(0,.pointer (some ⟨rg,0,none⟩))] ⟨U,O⟩ fun σ => Jg fun N5 hN5 => Jk (Jd (Ju (v := .pointer (some ⟨rg,0,none⟩)) U) U U U (Jd (Ju (v := .pointer (some ⟨rg,0,none⟩)) U) U U U (Jd (Jy U) U U U (Jd (Jc Uc U) U U U (Jd (Jq Tryz.isAgg3 U (Jm 0 U U)) U U U (Jd (Jy U) U U U (Jd (Jc Qp U) U U U ?_))))))))
  refine Jr 0 (v := .int _ _) (cs' := #[_,_,_,_,_]) U U Tryz.sizeOf3 U U U U (leb U) U U (Ja (hN5 _ _ (gT [box rg _,fr] U (Jb [(0,.pointer (some ⟨rg,0,none⟩))] ⟨U,O⟩ fun σ => Jg fun N6 hN6 => Kn ?_))))
  refine Mm [] [(0,.pointer (some ⟨rg,0,none⟩))] trivial ⟨U,O⟩ fun σ => ?_
  refine Ml (G := Nat) (fun k => k ≤ s.size ∧ endW s k = endW s j) (fun k => s.size - k) (fun k => []) (fun k => [(0,box rg (.cells #[.slice B n bc,.string s,.int .i64 ((j : Nat)),.int .i64 ((k : Nat)),.int .i64 code] 124))]) (j) ?h0 trivial ⟨U,O⟩ U ?round
  case h0 => exact ⟨hj,rfl⟩
  case round =>
   intro k hφ σ
   obtain ⟨hk,hks⟩ := hφ
   refine gT [box rg _,fr] U (Jg fun N7 hN7 => Jg fun N8 hN8 => ?_)
   refine Qx (by kernel_rfl) (by kernel_rfl) ?_
   refine gq (Ju (v := .pointer (some ⟨rg,0,none⟩)) U) U U U (gq (Jy U) U U U (gq (Jc Qp U) U U U (gq (Jq Tryz.isAgg3 U (Jm 0 U U)) U U U (gq (Ju (v := .pointer (some ⟨rg,0,none⟩)) U) U U U (gq (Jy U) U U U (gq (Jc Ws U) U U U (gq (Jq Tryz.isAgg9 U (Jm 0 U U)) U U U (gq (Qt Tryz.underlying9 U) U U U ?_))))))))
   refine gq (Me U U) U U U (gq (Jn U) U U U ?_)
   refine Xb (want := true) U U U U U U (fun hg55 => ?_) (fun hg55 => ?_)
   have hg55d := odt hg55
   refine gq (Je (Ju (v := .pointer (some ⟨rg,0,none⟩)) U)) U U U (Kp U U U U hg55 (gq (Je (Jy U)) U U U (Kp U U U U hg55 (gq (Je (Jc Ws U)) U U U (Kp U U U U hg55 (gq (Je (Jq Tryz.isAgg9 U (Jm 0 U U))) U U U (Kp U U U U hg55 (gq (Je (Ju (v := .pointer (some ⟨rg,0,none⟩)) U)) U U U ?_))))))))
   refine Kp U U U U hg55 (gq (Je (Jy U)) U U U (Kp U U U U hg55 (gq (Je (Jc Qp U)) U U U (Kp U U U U hg55 (gq (Je (Jq Tryz.isAgg3 U (Jm 0 U U))) U U U (Kp U U U U hg55 (gq (Je (Uu (m := k) Tryz.underlying9 U U (by omega) (by omega) (by omega))) U U U (Kp U U U U hg55 ?_))))))))
   refine Ww (Kb (vs := [_,.int _ _]) Tryz.func92 U (by kernel_rfl) U) (fun w hM => Yf w _ _) U U U ?_
   refine Kp U U U U hg55 (gq (Je (Me U U)) U U U (gq (Jo U hg55 U) U U U ?_))
   refine Mn ?_
   refine hN8 _ _ (Jb [(0,.pointer (some ⟨rg,0,none⟩)),(67,.bool _)] ⟨U,U,O⟩ fun σ => ?_)
   refine Jt (b := _) U (fun hc67 => ?_) (fun hc67 => ?_)
   replace hc67 := odt hc67
   have hk1 : k < s.size := by omega
   have hw : woB s k = true := (JZ s k).1 (by omega)
   refine Jw (hN7 _ _ (Jb [(0,.pointer (some ⟨rg,0,none⟩))] ⟨U,O⟩ fun σ => Kn (Jk (Jd (Ju (v := .pointer (some ⟨rg,0,none⟩)) U) U U U (Jd (Jy U) U U U (Jd (Jc Qp U) U U U (Jd (Jq Tryz.isAgg3 U (Jm 0 U U)) U U U (Jd (Kr U U ⟨by omega,by omega⟩) U U U ?_))))))))
   refine Jd (Jy U) U U U (Jd (Jc Qp U) U U U (Jr 0 (v := .int _ _) (cs' := #[_,_,_,_,_]) U U Tryz.sizeOf3 U U U U (leb U) U U (Ja ?_)))
   refine Kt (k + 1) (by omega) (⟨by show k + 1 ≤ _; omega,by rw [← hks]; exact (run_step hk1 hw).symm⟩) trivial ⟨U,O⟩ ⟨_,U⟩
   replace hc67 := odf hc67
   have hend : endW s j = k := by
     rw [← hks]
     refine Wc (fun h => ?_)
     by_cases hw : woB s k = true
     · exact absurd ((JZ s k).2 hw) (by omega)
     · simpa using hw
   refine Mx ?_
   refine hN6 _ _ (Jb [(0,.pointer (some ⟨rg,0,none⟩))] ⟨U,O⟩ fun σ => Jg fun N9 hN9 => ?_)
   refine Qx (by kernel_rfl) (by kernel_rfl) ?_
   refine gq (Ju (v := .pointer (some ⟨rg,0,none⟩)) U) U U U (gq (Jy U) U U U (gq (Jc Qp U) U U U (gq (Jq Tryz.isAgg3 U (Jm 0 U U)) U U U (gq (Ju (v := .pointer (some ⟨rg,0,none⟩)) U) U U U (gq (Jy U) U U U (gq (Jc Uc U) U U U (gq (Jq Tryz.isAgg3 U (Jm 0 U U)) U U U (gq (Mc U U) U U U ?_))))))))
   refine gq (Jn U) U U U ?_
   refine Xb (want := true) U U U U U U (fun hg84 => ?_) (fun hg84 => ?_)
   have hg84d := odt hg84
   refine gq (Je (Ju (v := .pointer (some ⟨rg,0,none⟩)) U)) U U U (Kp U U U U hg84 (gq (Je (Jy U)) U U U (Kp U U U U hg84 (gq (Je (Jc Uc U)) U U U (Kp U U U U hg84 (gq (Je (Jq Tryz.isAgg3 U (Jm 0 U U))) U U U (Kp U U U U hg84 (gq (Je (Ju (v := .pointer (some ⟨rg,0,none⟩)) U)) U U U ?_))))))))
   refine Kp U U U U hg84 (gq (Je (Jy U)) U U U (Kp U U U U hg84 (gq (Je (Jc Ws U)) U U U (Kp U U U U hg84 (gq (Je (Jq Tryz.isAgg9 U (Jm 0 U U))) U U U (Kp U U U U hg84 (gq (Je (Qt Tryz.underlying9 U)) U U U (Kp U U U U hg84 ?_))))))))
   refine gq (Je (Me U U)) U U U (gq (Jo U hg84 U) U U U ?_)
   refine Mn ?_
   refine hN9 _ _ (Jb [(0,.pointer (some ⟨rg,0,none⟩)),(95,.bool _)] ⟨U,U,O⟩ fun σ => ?_)
   refine Jt (b := _) U (fun hc95 => ?_) (fun hc95 => ?_)
   replace hc95 := odt hc95
   have hN : nextW s j = k + 1 := by rw [nextW,hend,if_pos (by omega)]; omega
   refine Jk (Jd (Ju (v := .pointer (some ⟨rg,0,none⟩)) U) U U U (Jd (Jy U) U U U (Jd (Jc Qp U) U U U (Jd (Jq Tryz.isAgg3 U (Jm 0 U U)) U U U (Jd (Kr U U ⟨by omega,by omega⟩) U U U (Jd (Jy U) U U U (Jd (Jc Qp U) U U U (Jr 0 (v := .int _ _) (cs' := #[_,_,_,_,_]) U U Tryz.sizeOf3 U U U U (leb U) U U ?_))))))))
   refine Ja ?_
   intro w1 hM
   refine ⟨_,res0 rfl,?_⟩
   rw [hat,hN]
   exact ⟨rfl,Ko (T' := [_,fr]) rfl _ hM⟩
   replace hc95 := odf hc95
   have hN : nextW s j = k := by rw [nextW,hend,if_neg (by omega)]
   refine Jw ?_
   intro w1 hM
   refine ⟨_,res0 rfl,?_⟩
   rw [hat,hN]
   exact ⟨rfl,Ko (T' := [_,fr]) rfl _ hM⟩
   have hg84d := odf hg84
   refine Kg U U U U hg84 U U (Kg U U U U hg84 U U (Kg U U U U hg84 U U (Kg U U U U hg84 U U (Kg U U U U hg84 U U (Kg U U U U hg84 U U (Kg U U U U hg84 U U (Kg U U U U hg84 U U (Kg U U U U hg84 U U ?_))))))))
   refine gq (Jp U hg84 U) U U U ?_
   refine Mn ?_
   refine hN9 _ _ (Jb [(0,.pointer (some ⟨rg,0,none⟩)),(95,.bool _)] ⟨U,U,O⟩ fun σ => ?_)
   refine Jt (b := _) U (fun hc95 => ?_) (fun hc95 => ?_)
   cases hc95
   have hN : nextW s j = k := by rw [nextW,hend,if_neg (by omega)]
   refine Jw ?_
   intro w1 hM
   refine ⟨_,res0 rfl,?_⟩
   rw [hat,hN]
   exact ⟨rfl,Ko (T' := [_,fr]) rfl _ hM⟩
   have hg55d := odf hg55
   refine Kg U U U U hg55 U U (Kg U U U U hg55 U U (Kg U U U U hg55 U U (Kg U U U U hg55 U U (Kg U U U U hg55 U U (Kg U U U U hg55 U U (Kg U U U U hg55 U U (Kg U U U U hg55 U U (Kg U U U U hg55 U U ?_))))))))
   refine Kg U U U U hg55 U U (gq (Jp U hg55 U) U U U ?_)
   refine Mn ?_
   refine hN8 _ _ (Jb [(0,.pointer (some ⟨rg,0,none⟩)),(67,.bool _)] ⟨U,U,O⟩ fun σ => ?_)
   refine Jt (b := _) U (fun hc67 => ?_) (fun hc67 => ?_)
   cases hc67
   have hend : endW s j = k := by
     rw [← hks]
     refine Wc (fun h => ?_)
     by_cases hw : woB s k = true
     · exact absurd ((JZ s k).2 hw) (by omega)
     · simpa using hw
   refine Mx ?_
   refine hN6 _ _ (Jb [(0,.pointer (some ⟨rg,0,none⟩))] ⟨U,O⟩ fun σ => Jg fun N10 hN10 => ?_)
   refine Qx (by kernel_rfl) (by kernel_rfl) ?_
   refine gq (Ju (v := .pointer (some ⟨rg,0,none⟩)) U) U U U (gq (Jy U) U U U (gq (Jc Qp U) U U U (gq (Jq Tryz.isAgg3 U (Jm 0 U U)) U U U (gq (Ju (v := .pointer (some ⟨rg,0,none⟩)) U) U U U (gq (Jy U) U U U (gq (Jc Uc U) U U U (gq (Jq Tryz.isAgg3 U (Jm 0 U U)) U U U (gq (Mc U U) U U U ?_))))))))
   refine gq (Jn U) U U U ?_
   refine Xb (want := true) U U U U U U (fun hg84 => ?_) (fun hg84 => ?_)
   have hg84d := odt hg84
   refine gq (Je (Ju (v := .pointer (some ⟨rg,0,none⟩)) U)) U U U (Kp U U U U hg84 (gq (Je (Jy U)) U U U (Kp U U U U hg84 (gq (Je (Jc Uc U)) U U U (Kp U U U U hg84 (gq (Je (Jq Tryz.isAgg3 U (Jm 0 U U))) U U U (Kp U U U U hg84 (gq (Je (Ju (v := .pointer (some ⟨rg,0,none⟩)) U)) U U U ?_))))))))
   refine Kp U U U U hg84 (gq (Je (Jy U)) U U U (Kp U U U U hg84 (gq (Je (Jc Ws U)) U U U (Kp U U U U hg84 (gq (Je (Jq Tryz.isAgg9 U (Jm 0 U U))) U U U (Kp U U U U hg84 (gq (Je (Qt Tryz.underlying9 U)) U U U (Kp U U U U hg84 ?_))))))))
   refine gq (Je (Me U U)) U U U (gq (Jo U hg84 U) U U U ?_)
   refine Mn ?_
   refine hN10 _ _ (Jb [(0,.pointer (some ⟨rg,0,none⟩)),(95,.bool _)] ⟨U,U,O⟩ fun σ => ?_)
   refine Jt (b := _) U (fun hc95 => ?_) (fun hc95 => ?_)
   replace hc95 := odt hc95
   have hN : nextW s j = k + 1 := by rw [nextW,hend,if_pos (by omega)]; omega
   refine Jk (Jd (Ju (v := .pointer (some ⟨rg,0,none⟩)) U) U U U (Jd (Jy U) U U U (Jd (Jc Qp U) U U U (Jd (Jq Tryz.isAgg3 U (Jm 0 U U)) U U U (Jd (Kr U U ⟨by omega,by omega⟩) U U U (Jd (Jy U) U U U (Jd (Jc Qp U) U U U (Jr 0 (v := .int _ _) (cs' := #[_,_,_,_,_]) U U Tryz.sizeOf3 U U U U (leb U) U U ?_))))))))
   refine Ja ?_
   intro w1 hM
   refine ⟨_,res0 rfl,?_⟩
   rw [hat,hN]
   exact ⟨rfl,Ko (T' := [_,fr]) rfl _ hM⟩
   replace hc95 := odf hc95
   have hN : nextW s j = k := by rw [nextW,hend,if_neg (by omega)]
   refine Jw ?_
   intro w1 hM
   refine ⟨_,res0 rfl,?_⟩
   rw [hat,hN]
   exact ⟨rfl,Ko (T' := [_,fr]) rfl _ hM⟩
   have hg84d := odf hg84
   refine Kg U U U U hg84 U U (Kg U U U U hg84 U U (Kg U U U U hg84 U U (Kg U U U U hg84 U U (Kg U U U U hg84 U U (Kg U U U U hg84 U U (Kg U U U U hg84 U U (Kg U U U U hg84 U U (Kg U U U U hg84 U U ?_))))))))
   refine gq (Jp U hg84 U) U U U ?_
   refine Mn ?_
   refine hN10 _ _ (Jb [(0,.pointer (some ⟨rg,0,none⟩)),(95,.bool _)] ⟨U,U,O⟩ fun σ => ?_)
   refine Jt (b := _) U (fun hc95 => ?_) (fun hc95 => ?_)
   cases hc95
   have hN : nextW s j = k := by rw [nextW,hend,if_neg (by omega)]
   refine Jw ?_
   intro w1 hM
   refine ⟨_,res0 rfl,?_⟩
   rw [hat,hN]
   exact ⟨rfl,Ko (T' := [_,fr]) rfl _ hM⟩
  have hg19d := odf hg19
  refine Kg U U U U hg19 U U (Kg U U U U hg19 U U (Kg U U U U hg19 U U (Kg U U U U hg19 U U (Kg U U U U hg19 U U (Kg U U U U hg19 U U (Kg U U U U hg19 U U (Kg U U U U hg19 U U (Kg U U U U hg19 U U ?_))))))))
  refine gq (Jp U hg19 U) U U U ?_
  refine Mn ?_
  refine hN4 _ _ (Jb [(0,.pointer (some ⟨rg,0,none⟩)),(30,.bool _)] ⟨U,U,O⟩ fun σ => ?_)
  refine Jt (b := _) U (fun hc30 => ?_) (fun hc30 => ?_)
  cases hc30
  have hat : skipW s nx = j := by rw [← hjs]; exact Wc (fun h => decide_eq_false (by omega))
  refine Mx ?_
  refine hN2 _ _ (Jb [(0,.pointer (some ⟨rg,0,none⟩))] ⟨U,O⟩ fun σ => Jg fun N11 hN11 => Jk (Jd (Ju (v := .pointer (some ⟨rg,0,none⟩)) U) U U U (Jd (Ju (v := .pointer (some ⟨rg,0,none⟩)) U) U U U (Jd (Jy U) U U U (Jd (Jc Uc U) U U U (Jd (Jq Tryz.isAgg3 U (Jm 0 U U)) U U U (Jd (Jy U) U U U (Jd (Jc Qp U) U U U ?_))))))))
  refine Jr 0 (v := .int _ _) (cs' := #[_,_,_,_,_]) U U Tryz.sizeOf3 U U U U (leb U) U U (Ja (hN11 _ _ (gT [box rg _,fr] U (Jb [(0,.pointer (some ⟨rg,0,none⟩))] ⟨U,O⟩ fun σ => Jg fun N12 hN12 => Kn ?_))))
  refine Mm [] [(0,.pointer (some ⟨rg,0,none⟩))] trivial ⟨U,O⟩ fun σ => ?_
  refine Ml (G := Nat) (fun k => k ≤ s.size ∧ endW s k = endW s j) (fun k => s.size - k) (fun k => []) (fun k => [(0,box rg (.cells #[.slice B n bc,.string s,.int .i64 ((j : Nat)),.int .i64 ((k : Nat)),.int .i64 code] 124))]) (j) ?h0 trivial ⟨U,O⟩ U ?round
  case h0 => exact ⟨hj,rfl⟩
  case round =>
   intro k hφ σ
   obtain ⟨hk,hks⟩ := hφ
   refine gT [box rg _,fr] U (Jg fun N13 hN13 => Jg fun N14 hN14 => ?_)
   refine Qx (by kernel_rfl) (by kernel_rfl) ?_
   refine gq (Ju (v := .pointer (some ⟨rg,0,none⟩)) U) U U U (gq (Jy U) U U U (gq (Jc Qp U) U U U (gq (Jq Tryz.isAgg3 U (Jm 0 U U)) U U U (gq (Ju (v := .pointer (some ⟨rg,0,none⟩)) U) U U U (gq (Jy U) U U U (gq (Jc Ws U) U U U (gq (Jq Tryz.isAgg9 U (Jm 0 U U)) U U U (gq (Qt Tryz.underlying9 U) U U U ?_))))))))
   refine gq (Me U U) U U U (gq (Jn U) U U U ?_)
   refine Xb (want := true) U U U U U U (fun hg55 => ?_) (fun hg55 => ?_)
   have hg55d := odt hg55
   refine gq (Je (Ju (v := .pointer (some ⟨rg,0,none⟩)) U)) U U U (Kp U U U U hg55 (gq (Je (Jy U)) U U U (Kp U U U U hg55 (gq (Je (Jc Ws U)) U U U (Kp U U U U hg55 (gq (Je (Jq Tryz.isAgg9 U (Jm 0 U U))) U U U (Kp U U U U hg55 (gq (Je (Ju (v := .pointer (some ⟨rg,0,none⟩)) U)) U U U ?_))))))))
   refine Kp U U U U hg55 (gq (Je (Jy U)) U U U (Kp U U U U hg55 (gq (Je (Jc Qp U)) U U U (Kp U U U U hg55 (gq (Je (Jq Tryz.isAgg3 U (Jm 0 U U))) U U U (Kp U U U U hg55 (gq (Je (Uu (m := k) Tryz.underlying9 U U (by omega) (by omega) (by omega))) U U U (Kp U U U U hg55 ?_))))))))
   refine Ww (Kb (vs := [_,.int _ _]) Tryz.func92 U (by kernel_rfl) U) (fun w hM => Yf w _ _) U U U ?_
   refine Kp U U U U hg55 (gq (Je (Me U U)) U U U (gq (Jo U hg55 U) U U U ?_))
   refine Mn ?_
   refine hN14 _ _ (Jb [(0,.pointer (some ⟨rg,0,none⟩)),(67,.bool _)] ⟨U,U,O⟩ fun σ => ?_)
   refine Jt (b := _) U (fun hc67 => ?_) (fun hc67 => ?_)
   replace hc67 := odt hc67
   have hk1 : k < s.size := by omega
   have hw : woB s k = true := (JZ s k).1 (by omega)
   refine Jw (hN13 _ _ (Jb [(0,.pointer (some ⟨rg,0,none⟩))] ⟨U,O⟩ fun σ => Kn (Jk (Jd (Ju (v := .pointer (some ⟨rg,0,none⟩)) U) U U U (Jd (Jy U) U U U (Jd (Jc Qp U) U U U (Jd (Jq Tryz.isAgg3 U (Jm 0 U U)) U U U (Jd (Kr U U ⟨by omega,by omega⟩) U U U ?_))))))))
   refine Jd (Jy U) U U U (Jd (Jc Qp U) U U U (Jr 0 (v := .int _ _) (cs' := #[_,_,_,_,_]) U U Tryz.sizeOf3 U U U U (leb U) U U (Ja ?_)))
   refine Kt (k + 1) (by omega) (⟨by show k + 1 ≤ _; omega,by rw [← hks]; exact (run_step hk1 hw).symm⟩) trivial ⟨U,O⟩ ⟨_,U⟩
   replace hc67 := odf hc67
   have hend : endW s j = k := by
     rw [← hks]
     refine Wc (fun h => ?_)
     by_cases hw : woB s k = true
     · exact absurd ((JZ s k).2 hw) (by omega)
     · simpa using hw
   refine Mx ?_
   refine hN12 _ _ (Jb [(0,.pointer (some ⟨rg,0,none⟩))] ⟨U,O⟩ fun σ => Jg fun N15 hN15 => ?_)
   refine Qx (by kernel_rfl) (by kernel_rfl) ?_
   refine gq (Ju (v := .pointer (some ⟨rg,0,none⟩)) U) U U U (gq (Jy U) U U U (gq (Jc Qp U) U U U (gq (Jq Tryz.isAgg3 U (Jm 0 U U)) U U U (gq (Ju (v := .pointer (some ⟨rg,0,none⟩)) U) U U U (gq (Jy U) U U U (gq (Jc Uc U) U U U (gq (Jq Tryz.isAgg3 U (Jm 0 U U)) U U U (gq (Mc U U) U U U ?_))))))))
   refine gq (Jn U) U U U ?_
   refine Xb (want := true) U U U U U U (fun hg84 => ?_) (fun hg84 => ?_)
   have hg84d := odt hg84
   refine gq (Je (Ju (v := .pointer (some ⟨rg,0,none⟩)) U)) U U U (Kp U U U U hg84 (gq (Je (Jy U)) U U U (Kp U U U U hg84 (gq (Je (Jc Uc U)) U U U (Kp U U U U hg84 (gq (Je (Jq Tryz.isAgg3 U (Jm 0 U U))) U U U (Kp U U U U hg84 (gq (Je (Ju (v := .pointer (some ⟨rg,0,none⟩)) U)) U U U ?_))))))))
   refine Kp U U U U hg84 (gq (Je (Jy U)) U U U (Kp U U U U hg84 (gq (Je (Jc Ws U)) U U U (Kp U U U U hg84 (gq (Je (Jq Tryz.isAgg9 U (Jm 0 U U))) U U U (Kp U U U U hg84 (gq (Je (Qt Tryz.underlying9 U)) U U U (Kp U U U U hg84 ?_))))))))
   refine gq (Je (Me U U)) U U U (gq (Jo U hg84 U) U U U ?_)
   refine Mn ?_
   refine hN15 _ _ (Jb [(0,.pointer (some ⟨rg,0,none⟩)),(95,.bool _)] ⟨U,U,O⟩ fun σ => ?_)
   refine Jt (b := _) U (fun hc95 => ?_) (fun hc95 => ?_)
   replace hc95 := odt hc95
   have hN : nextW s j = k + 1 := by rw [nextW,hend,if_pos (by omega)]; omega
   refine Jk (Jd (Ju (v := .pointer (some ⟨rg,0,none⟩)) U) U U U (Jd (Jy U) U U U (Jd (Jc Qp U) U U U (Jd (Jq Tryz.isAgg3 U (Jm 0 U U)) U U U (Jd (Kr U U ⟨by omega,by omega⟩) U U U (Jd (Jy U) U U U (Jd (Jc Qp U) U U U (Jr 0 (v := .int _ _) (cs' := #[_,_,_,_,_]) U U Tryz.sizeOf3 U U U U (leb U) U U ?_))))))))
   refine Ja ?_
   intro w1 hM
   refine ⟨_,res0 rfl,?_⟩
   rw [hat,hN]
   exact ⟨rfl,Ko (T' := [_,fr]) rfl _ hM⟩
   replace hc95 := odf hc95
   have hN : nextW s j = k := by rw [nextW,hend,if_neg (by omega)]
   refine Jw ?_
   intro w1 hM
   refine ⟨_,res0 rfl,?_⟩
   rw [hat,hN]
   exact ⟨rfl,Ko (T' := [_,fr]) rfl _ hM⟩
   have hg84d := odf hg84
   refine Kg U U U U hg84 U U (Kg U U U U hg84 U U (Kg U U U U hg84 U U (Kg U U U U hg84 U U (Kg U U U U hg84 U U (Kg U U U U hg84 U U (Kg U U U U hg84 U U (Kg U U U U hg84 U U (Kg U U U U hg84 U U ?_))))))))
   refine gq (Jp U hg84 U) U U U ?_
   refine Mn ?_
   refine hN15 _ _ (Jb [(0,.pointer (some ⟨rg,0,none⟩)),(95,.bool _)] ⟨U,U,O⟩ fun σ => ?_)
   refine Jt (b := _) U (fun hc95 => ?_) (fun hc95 => ?_)
   cases hc95
   have hN : nextW s j = k := by rw [nextW,hend,if_neg (by omega)]
   refine Jw ?_
   intro w1 hM
   refine ⟨_,res0 rfl,?_⟩
   rw [hat,hN]
   exact ⟨rfl,Ko (T' := [_,fr]) rfl _ hM⟩
   have hg55d := odf hg55
   refine Kg U U U U hg55 U U (Kg U U U U hg55 U U (Kg U U U U hg55 U U (Kg U U U U hg55 U U (Kg U U U U hg55 U U (Kg U U U U hg55 U U (Kg U U U U hg55 U U (Kg U U U U hg55 U U (Kg U U U U hg55 U U ?_))))))))
   refine Kg U U U U hg55 U U (gq (Jp U hg55 U) U U U ?_)
   refine Mn ?_
   refine hN14 _ _ (Jb [(0,.pointer (some ⟨rg,0,none⟩)),(67,.bool _)] ⟨U,U,O⟩ fun σ => ?_)
   refine Jt (b := _) U (fun hc67 => ?_) (fun hc67 => ?_)
   cases hc67
   have hend : endW s j = k := by
     rw [← hks]
     refine Wc (fun h => ?_)
     by_cases hw : woB s k = true
     · exact absurd ((JZ s k).2 hw) (by omega)
     · simpa using hw
   refine Mx ?_
   refine hN12 _ _ (Jb [(0,.pointer (some ⟨rg,0,none⟩))] ⟨U,O⟩ fun σ => Jg fun N16 hN16 => ?_)
   refine Qx (by kernel_rfl) (by kernel_rfl) ?_
   refine gq (Ju (v := .pointer (some ⟨rg,0,none⟩)) U) U U U (gq (Jy U) U U U (gq (Jc Qp U) U U U (gq (Jq Tryz.isAgg3 U (Jm 0 U U)) U U U (gq (Ju (v := .pointer (some ⟨rg,0,none⟩)) U) U U U (gq (Jy U) U U U (gq (Jc Uc U) U U U (gq (Jq Tryz.isAgg3 U (Jm 0 U U)) U U U (gq (Mc U U) U U U ?_))))))))
   refine gq (Jn U) U U U ?_
   refine Xb (want := true) U U U U U U (fun hg84 => ?_) (fun hg84 => ?_)
   have hg84d := odt hg84
   refine gq (Je (Ju (v := .pointer (some ⟨rg,0,none⟩)) U)) U U U (Kp U U U U hg84 (gq (Je (Jy U)) U U U (Kp U U U U hg84 (gq (Je (Jc Uc U)) U U U (Kp U U U U hg84 (gq (Je (Jq Tryz.isAgg3 U (Jm 0 U U))) U U U (Kp U U U U hg84 (gq (Je (Ju (v := .pointer (some ⟨rg,0,none⟩)) U)) U U U ?_))))))))
   refine Kp U U U U hg84 (gq (Je (Jy U)) U U U (Kp U U U U hg84 (gq (Je (Jc Ws U)) U U U (Kp U U U U hg84 (gq (Je (Jq Tryz.isAgg9 U (Jm 0 U U))) U U U (Kp U U U U hg84 (gq (Je (Qt Tryz.underlying9 U)) U U U (Kp U U U U hg84 ?_))))))))
   refine gq (Je (Me U U)) U U U (gq (Jo U hg84 U) U U U ?_)
   refine Mn ?_
   refine hN16 _ _ (Jb [(0,.pointer (some ⟨rg,0,none⟩)),(95,.bool _)] ⟨U,U,O⟩ fun σ => ?_)
   refine Jt (b := _) U (fun hc95 => ?_) (fun hc95 => ?_)
   replace hc95 := odt hc95
   have hN : nextW s j = k + 1 := by rw [nextW,hend,if_pos (by omega)]; omega
   refine Jk (Jd (Ju (v := .pointer (some ⟨rg,0,none⟩)) U) U U U (Jd (Jy U) U U U (Jd (Jc Qp U) U U U (Jd (Jq Tryz.isAgg3 U (Jm 0 U U)) U U U (Jd (Kr U U ⟨by omega,by omega⟩) U U U (Jd (Jy U) U U U (Jd (Jc Qp U) U U U (Jr 0 (v := .int _ _) (cs' := #[_,_,_,_,_]) U U Tryz.sizeOf3 U U U U (leb U) U U ?_))))))))
   refine Ja ?_
   intro w1 hM
   refine ⟨_,res0 rfl,?_⟩
   rw [hat,hN]
   exact ⟨rfl,Ko (T' := [_,fr]) rfl _ hM⟩
   replace hc95 := odf hc95
   have hN : nextW s j = k := by rw [nextW,hend,if_neg (by omega)]
   refine Jw ?_
   intro w1 hM
   refine ⟨_,res0 rfl,?_⟩
   rw [hat,hN]
   exact ⟨rfl,Ko (T' := [_,fr]) rfl _ hM⟩
   have hg84d := odf hg84
   refine Kg U U U U hg84 U U (Kg U U U U hg84 U U (Kg U U U U hg84 U U (Kg U U U U hg84 U U (Kg U U U U hg84 U U (Kg U U U U hg84 U U (Kg U U U U hg84 U U (Kg U U U U hg84 U U (Kg U U U U hg84 U U ?_))))))))
   refine gq (Jp U hg84 U) U U U ?_
   refine Mn ?_
   refine hN16 _ _ (Jb [(0,.pointer (some ⟨rg,0,none⟩)),(95,.bool _)] ⟨U,U,O⟩ fun σ => ?_)
   refine Jt (b := _) U (fun hc95 => ?_) (fun hc95 => ?_)
   cases hc95
   have hN : nextW s j = k := by rw [nextW,hend,if_neg (by omega)]
   refine Jw ?_
   intro w1 hM
   refine ⟨_,res0 rfl,?_⟩
   rw [hat,hN]
   exact ⟨rfl,Ko (T' := [_,fr]) rfl _ hM⟩
end Go.Proofs.YtbkameioedmlkaaGreatDoor
namespace Go.Proofs.YtbkameioedmlkaaGreatDoor
open Go.RowKit Go.Cf
set_option maxRecDepth 10000
theorem fa124_4 (a : Addr) (w : World) : (Instr.fieldAt 124 (.pointer (some a)) 4).run Tryz.prog w = .ok (.pointer (some (a.add 4))) w := by kernel_rfl
set_option maxHeartbeats 1000000 in
theorem rdWord_any (w : World) (rg : Nat) (s : ByteArray) (a x : Nat) (hax : a ≤ x) (hxs : x ≤ s.size) (h1 : w.cell? ⟨rg, 1, none⟩ = some (.string s)) (h2 : w.cell? ⟨rg, 2, none⟩ = some (.int .i64 (a : Int))) (h3 : w.cell? ⟨rg, 3, none⟩ = some (.int .i64 (x : Int))) : Calls Tryz.prog 118 #[.pointer (some ⟨rg, 0, none⟩)] w fun e w' => e = .returned (.string (s.extract a x)) ∧ Below w.heap.size w w' := by
 refine Kz Tryz.func118 U Tryz.ntmps118 (leb U) ?_
 refine Jb [(0,.pointer (some ⟨rg,0,none⟩))] ⟨U,O⟩ fun σ => Jg fun N1 hN1 => Jk (Jd (Ul U) U U U (Ja (hN1 _ _ (Jb [(0,.pointer (some ⟨rg,0,none⟩))] ⟨U,O⟩ fun σ => Jg fun N2 hN2 => ?_))))
 refine Qx (by kernel_rfl) (by kernel_rfl) ?_
 refine gq (Ju (v := .pointer (some ⟨rg,0,none⟩)) U) U U U (gq (Jy U) U U U (gq (Jc Ws U) U U U (gq (Jq Tryz.isAgg9 U (Ms h1)) U U U (gq (Ju (v := .pointer (some ⟨rg,0,none⟩)) U) U U U (gq (Jy U) U U U (gq (Jc Uc U) U U U (gq (Jq Tryz.isAgg3 U (Ms h2)) U U U (gq (Ju (v := .pointer (some ⟨rg,0,none⟩)) U) U U U ?_))))))))
 refine gq (Jy U) U U U (gq (Jc Qp U) U U U (gq (Jq Tryz.isAgg3 U (Ms h3)) U U U (gq (y_strslice Tryz.underlying9 U U U (by omega) (by omega) (by omega)) U U U (gq (Ul U) U U U ?_))))
 refine Mn ?_
 refine hN2 _ _ (Jb [(2,.string _)] ⟨U,O⟩ fun σ => ?_)
 refine Ke fun w1 hM => ?_
 refine ⟨_,res1 rfl (rt (v := .string _) rfl),?_⟩
 exact ⟨by simp,hM.low⟩
set_option maxHeartbeats 4000000 in
theorem Uv (w0 w : World) (rg n bc : Nat) (B : Option Addr) (s : ByteArray) (code : Int) (fr : Reg) (hs : s.size ≤ 200) (a : Nat) (ts : List Tk) (hrs : RS s a ts) (x : ByteArray) (hM0 : Mem w0 [box rg (.cells #[.slice B n bc, .string s, .int .i64 ((a : Nat)), .int .i64 ((nextW s (a) : Nat)), .int .i64 code] 124), fr] w) : Calls Tryz.prog 94 #[.pointer (some ⟨rg, 0, none⟩), .string x] w fun e w' => ∃ a' ts', e = .returned (.bool (decide (hd ts = x))) ∧ RS s a' ts' ∧ ts' = (if hd ts = x then ts.tail else ts) ∧ Mem w0 [box rg (.cells #[.slice B n bc, .string s, .int .i64 ((a' : Nat)), .int .i64 ((nextW s (a') : Nat)), .int .i64 code] 124), fr] w' := by
 refine gcallsT Tryz.func94 U Tryz.ntmps94 (leb U) hM0 ?_
 refine Jb [(0,.pointer (some ⟨rg,0,none⟩)),(1,.string x)] ⟨U,U,O⟩ fun σ => Jg fun N1 hN1 => Jk (Jd (Ji U) U U U (Ja (hN1 _ _ (Jb [(0,.pointer (some ⟨rg,0,none⟩)),(1,.string x)] ⟨U,U,O⟩ fun σ => Jg fun N2 hN2 => Jk (Jd (Ju (v := .pointer (some ⟨rg,0,none⟩)) U) U U U ?_)))))
 refine Km (Kb (vs := [.pointer (some ⟨rg,0,none⟩)]) Tryz.func118 U (by kernel_rfl) U) (fun w hM => rdWord_any w rg s _ _ (next_ge _ _) (next_le hrs.le) (Jm (w0 := w0) 0 (off := 1) U U w hM) (Jm (w0 := w0) 0 (off := 2) U U w hM) (Jm (w0 := w0) 0 (off := 3) U U w hM)) U U U ?_
 refine Jd (Ju (v := .string x) U) U U U (Jd (Ur U U) U U U (Jd (Ji U) U U U (Ja (hN2 _ _ (Jb [(0,.pointer (some ⟨rg,0,none⟩)),(5,.bool _)] ⟨U,U,O⟩ fun σ => Jg fun N3 hN3 => Jg fun N4 hN4 => Jk (Jd (Jn U) U U U (Ja (hN4 _ _ ?_))))))))
 refine Jb [(0,.pointer (some ⟨rg,0,none⟩)),(5,.bool _),(10,.bool _)] ⟨U,U,U,O⟩ fun σ => ?_
 refine Jt (b := _) U (fun hc10 => ?_) (fun hc10 => ?_)
 rw [Xm,hrs.hd] at hc10
 have hx := odt hc10
 refine Jk (Jd (Ju (v := .pointer (some ⟨rg,0,none⟩)) U) U U U ?_)
 refine Mu 0 (fun v r G => v = .tuple #[] ∧ r = box rg (.cells #[.slice B n bc,.string s,.int .i64 ((skipW s (nextW s a) : Nat)),.int .i64 ((nextW s (skipW s (nextW s a)) : Nat)),.int .i64 code] 124) ∧ G = []) (Kb (vs := [.pointer (some ⟨rg,0,none⟩)]) Tryz.func54 U (by kernel_rfl) U) U (fun w fr1 hfr hM => (QW _ w rg _ _ _ s _ fr1 hs _ _ _ U (next_le hrs.le) hM).mono fun _ _ ⟨h1,h2⟩ => ⟨_,_,[],h1,⟨U,U,U⟩,h2⟩) U U U ?_
 rintro _ _ _ ⟨rfl,rfl,rfl⟩
 refine Ja (hN3 _ _ (gT [box rg _,fr] U (Jb [(5,.bool _)] ⟨U,O⟩ fun σ => Jg fun N5 hN5 => Jk (Jd (Jn U) U U U (Jd (Ji U) U U U (Ja (hN5 _ _ (Jb [(4,.bool _)] ⟨U,O⟩ fun σ => ?_))))))))
 refine Ke fun w1 hM => ?_
 refine ⟨_,res1 rfl (rt (v := .bool _) rfl),?_⟩
 rw [Xm,hrs.hd]
 first
 | exact ⟨_,_,rfl,hrs.next,by rw [if_pos hx],Ko (T' := [_,fr]) rfl _ hM⟩
 | exact ⟨_,_,rfl,hrs,by rw [if_neg hx],Ko (T' := [_,fr]) rfl _ hM⟩
 rw [Xm,hrs.hd] at hc10
 have hx := odf hc10
 refine Jw (hN3 _ _ (Jb [(5,.bool _)] ⟨U,O⟩ fun σ => Jg fun N6 hN6 => Jk (Jd (Jn U) U U U (Jd (Ji U) U U U (Ja (hN6 _ _ (Jb [(4,.bool _)] ⟨U,O⟩ fun σ => ?_)))))))
 refine Ke fun w1 hM => ?_
 refine ⟨_,res1 rfl (rt (v := .bool _) rfl),?_⟩
 rw [Xm,hrs.hd]
 first
 | exact ⟨_,_,rfl,hrs.next,by rw [if_pos hx],Ko (T' := [_,fr]) rfl _ hM⟩
 | exact ⟨_,_,rfl,hrs,by rw [if_neg hx],Ko (T' := [_,fr]) rfl _ hM⟩
set_option maxHeartbeats 4000000 in
theorem Wh (w0 w : World) (rg n bc : Nat) (B : Option Addr) (s : ByteArray) (code a x : Int) (fr : Reg) (c : Int) (hM0 : Mem w0 [box rg (.cells #[.slice B n bc, .string s, .int .i64 (a), .int .i64 (x), .int .i64 code] 124), fr] w) : Calls Tryz.prog 56 #[.pointer (some ⟨rg, 0, none⟩), .int .i64 c] w fun e w' => e = .returned (.tuple #[.int .i64 0, .bool false]) ∧ Mem w0 [box rg (.cells #[.slice B n bc, .string s, .int .i64 (a), .int .i64 (x), .int .i64 c] 124), fr] w' := by
 refine gcallsT Tryz.func56 U Tryz.ntmps56 (leb U) hM0 ?_
 refine Jb [(0,.pointer (some ⟨rg,0,none⟩)),(1,.int _ _)] ⟨U,U,O⟩ fun σ => Jg fun N1 hN1 => Jk (Jd (Jh U) U U U (Jd (Ji U) U U U (Ja (hN1 _ _ (Jb [(0,.pointer (some ⟨rg,0,none⟩)),(1,.int _ _)] ⟨U,U,O⟩ fun σ => Jg fun N2 hN2 => Jk (Jd (Ju (v := .pointer (some ⟨rg,0,none⟩)) U) U U U (Jd (Jf U) U U U (Jd (Jy U) U U U ?_))))))))
 refine Jd (Jc fa124_4 U) U U U (Jr 0 (v := .int _ _) (cs' := #[_,_,_,_,_]) U U Tryz.sizeOf3 U U U U (leb U) U U (Ja (hN2 _ _ (gT [box rg _,fr] U (Jb [] trivial fun σ => Jg fun N3 hN3 => Jk (Jd (Jh U) U U U (Jd (Ji U) U U U (Ja ?_))))))))
 refine hN3 _ _ (Jb [(4,.int _ _),(5,.bool _)] ⟨U,U,O⟩ fun σ => ?_)
 refine Ke fun w1 hM => ?_
 refine ⟨_,res2 rfl (rt (v := .int _ _) rfl) (rt (v := .bool _) rfl),?_⟩
 exact ⟨rfl,Ko (T' := [_,fr]) rfl _ hM⟩
set_option maxHeartbeats 4000000 in
theorem Xa (w0 w : World) (rg bc : Nat) (B : Option Addr) (s : ByteArray) (code a x : Int) (o : List PN) (fr : Reg) (hM0 : Mem w0 [box rg (.cells #[.slice B o.length bc, .string s, .int .i64 (a), .int .i64 (x), .int .i64 code] 124), rowl pnCells w0.heap.size 48 4 (.slice B (o).length bc) (o), fr] w) (hol : o.length ≤ 1000) (n : PN) : Calls Tryz.prog 95 #[.pointer (some ⟨rg, 0, none⟩), pnV n] w fun e w' => ∃ B' bc', e = .returned (.int .i64 (o.length : Nat)) ∧ Mem w0 [box rg (.cells #[.slice B' (o ++ [n]).length bc', .string s, .int .i64 (a), .int .i64 (x), .int .i64 code] 124), rowl pnCells w0.heap.size 48 4 (.slice B' (o ++ [n]).length bc') (o ++ [n]), fr] w' := by
 refine gcallsT Tryz.func95 U Tryz.ntmps95 (leb U) hM0 ?_
 refine Jb [(0,.pointer (some ⟨rg,0,none⟩)),(1,.agg #[_,_,_,_])] ⟨U,U,O⟩ fun σ => Jg fun N1 hN1 => Jk ?_
 refine Mt (v := .agg #[_,_,_,_]) (cs := #[_,_,_,_]) U U U (fun b3 hb3 => ?_)
 refine Jd (Jh U) U U U (Ja (hN1 _ _ (gT [box rg _,rowl _ _ _ _ _ _,fr,box b3 _] U (Jb [(0,.pointer (some ⟨rg,0,none⟩)),(3,.pointer _)] ⟨U,U,O⟩ fun σ => Jg fun N2 hN2 => ?_))))
 refine Qr [10] [(1,emp)] (by kernel_rfl) ?_
 refine Jv 0 (TK := [box rg _,emp,fr,box b3 _]) U (by kernel_rfl) (by kernel_rfl) (by kernel_rfl) #[false,true,true,true,true,true,true,true,false,false,false] (by kernel_rfl) U (Ju (v := .pointer (some ⟨rg,0,none⟩)) U) U U U (Kw 1 U) (listed' := #[true,false,false,false,false,false,false,false,false,false,false]) U ?_
 refine Jv 1 (TK := [box rg _,emp,fr,box b3 _]) U (by kernel_rfl) (by kernel_rfl) (by kernel_rfl) #[true,false,false,false,false,true,true,false,false,false,false] (by kernel_rfl) U (Ju (v := .pointer (some ⟨rg,0,none⟩)) U) U U U (Kw 1 U) (listed' := #[true,true,false,false,false,false,false,false,false,false,false]) U ?_
 refine Jv 2 (TK := [box rg _,emp,fr,box b3 _]) U (by kernel_rfl) (by kernel_rfl) (by kernel_rfl) #[true,true,false,false,false,true,true,false,false,false,false] (by kernel_rfl) U (Jy U) U U U (Kw 1 U) (listed' := #[true,true,true,false,false,false,false,false,false,false,false]) U ?_
 refine Jv 3 (TK := [box rg _,emp,fr,box b3 _]) U (by kernel_rfl) (by kernel_rfl) (by kernel_rfl) #[true,true,true,false,false,true,true,false,false,false,false] (by kernel_rfl) U (Jc fa122_0 U) U U U (Kw 1 U) (listed' := #[true,true,true,true,false,false,false,false,false,false,false]) U ?_
 refine Jv 4 (TK := [box rg _,emp,fr,box b3 _]) U (by kernel_rfl) (by kernel_rfl) (by kernel_rfl) #[true,true,true,true,false,true,true,false,false,false,false] (by kernel_rfl) U (Jq Tryz.isAgg41 U (Jm 0 U U)) U U U (Kw 1 U) (listed' := #[true,true,true,true,true,false,false,false,false,false,false]) U ?_
 refine Jv 5 (TK := [box rg _,emp,fr,box b3 _]) U (by kernel_rfl) (by kernel_rfl) (by kernel_rfl) #[true,true,true,true,true,false,false,false,false,false,false] (by kernel_rfl) U (Kk (cs := [_,_,_,_]) Tryz.isAgg48 Tryz.sizeOf48 U U (Kf 3 U)) U U U (Kw 1 U) (listed' := #[true,true,true,true,true,true,false,false,false,false,false]) U ?_
 refine Mr 6 (k' := 0) (listed' := #[true,true,true,true,true,true,true,false,false,false,false]) (by kernel_rfl) U U U ?_
 refine Qo (vs := [.agg #[_,_,_,_]]) (cells := #[_,_,_,_]) Tryz.underlying41 Tryz.sizeOf48 Tryz.zeroValue48 U (by decide) (by decide) U U U U (fun b11 hb11 => ?_)
 refine Ja ?_
 refine Mo (TK := [box rg _,emp,fr,box b3 _]) U (Mb (Ko (T' := [box rg _,rowl _ _ _ _ _ _,fr,box b3 _]) U) (Kw 1 U)) ?_
 refine Mr 7 (k' := 0) (listed' := #[true,true,true,true,true,true,true,true,false,false,false]) (by kernel_rfl) U U U ?_
 refine Qj 1 (f := pnCells) (l2 := [n]) Tryz.underlying41 el48 wide_pn (v := .slice _ _ _) U U U U (fun h => by cases h) (by simp [maxLen]; omega) (by simp; omega) (Wp 4 U U) U (fun v12 => ?_)
 refine Ky (fun w hM => Ug (hM.own 1 U)) ?_
 rintro ⟨A12,c12,rfl,hc12,hm12⟩
 refine Ja ?_
 refine Mo (TK := [box rg _,emp,fr,box b3 _]) U (Mb (Ko (T' := [box rg _,rowl _ _ _ _ _ _,fr,box b3 _]) U) (Kw 1 U)) ?_
 refine Jv 8 (TK := [box rg _,emp,fr,box b3 _]) U (by kernel_rfl) (by kernel_rfl) (by kernel_rfl) #[true,true,true,true,true,true,true,true,false,false,false] (by kernel_rfl) U (Jy U) U U U (Mb (Ko (T' := [box rg _,rowl _ _ _ _ _ _,fr,box b3 _]) U) (Kw 1 U)) (listed' := #[true,true,true,true,true,true,true,true,true,false,false]) U ?_
 refine Jv 9 (TK := [box rg _,emp,fr,box b3 _]) U (by kernel_rfl) (by kernel_rfl) (by kernel_rfl) #[true,true,true,true,true,true,true,true,true,false,false] (by kernel_rfl) U (Jc fa122_0 U) U U U (Mb (Ko (T' := [box rg _,rowl _ _ _ _ _ _,fr,box b3 _]) U) (Kw 1 U)) (listed' := #[true,true,true,true,true,true,true,true,true,true,false]) U ?_
 refine Mr 10 (k' := 1) (listed' := #[true,true,true,true,true,true,true,true,true,true,true]) (by kernel_rfl) U U U ?_
 refine Jr 0 (v := .slice A12 _ c12) (cs' := #[_,_,_,_,_]) U U Tryz.sizeOf41 U U U U (leb U) U U (Ja ?_)
 refine Mo (TK := []) U (Qn) ?_
 refine Qd (by kernel_rfl) ?_
 refine hN2 _ _ (gT [box rg _,rowl _ _ _ _ _ _,fr,box b3 _,box b11 _] U (Jb [(0,.pointer (some ⟨rg,0,none⟩))] ⟨U,O⟩ fun σ => Jg fun N3 hN3 => Jk (Jd (Ju (v := .pointer (some ⟨rg,0,none⟩)) U) U U U (Jd (Jy U) U U U (Jd (Jc fa122_0 U) U U U (Jd (Jq Tryz.isAgg41 U (Jm 0 U U)) U U U (Jd (Ks Tryz.underlying41 U) U U U (Jd (Zi U U ⟨by first | omega | (simp; done) | (simp; omega),by first | omega | (simp; done) | (simp; omega)⟩) U U U ?_))))))))
 refine Jd (Jh U) U U U (Ja (hN3 _ _ (Jb [(4,.int _ _)] ⟨U,O⟩ fun σ => ?_)))
 refine Ke fun w1 hM => ?_
 refine ⟨_,res1 rfl (rt (v := .int _ _) rfl),?_⟩
 exact ⟨A12,c12,by simp,Ko (T' := [_,_,fr]) rfl _ hM⟩
end Go.Proofs.YtbkameioedmlkaaGreatDoor
namespace Go.Proofs.YtbkameioedmlkaaGreatDoor
open Go.RowKit Go.Cf
set_option maxRecDepth 10000
theorem KM (a : Addr) (w : World) : (Instr.fieldAt 124 (.pointer (some a)) 0).run Tryz.prog w = .ok (.pointer (some (a.add 0))) w := by kernel_rfl
theorem bd48_0_1 (x1 : Int) (x2 : Int) : Tryz.prog.built 48 [(0, .int .i64 x1), (1, .int .i64 x2)] = some #[.int .i64 x1, .int .i64 x2, .int .i64 0, .int .i64 0] := by kernel_rfl
set_option maxHeartbeats 8000000 in
theorem rdNumber_any (w0 w : World) (rg bc : Nat) (B : Option Addr) (s : ByteArray) (code : Int) (o : List PN) (fr : Reg) (hs : s.size ≤ 200) (a : Nat) (ts : List Tk) (hrs : RS s a ts) (kd : Int) (hol : o.length ≤ 900) (hL : LaidP w0) (hM0 : Mem w0 [box rg (.cells #[.slice B o.length bc, .string s, .int .i64 ((a : Nat)), .int .i64 ((nextW s (a) : Nat)), .int .i64 code] 124), rowl pnCells w0.heap.size 48 4 (.slice B (o).length bc) (o), fr] w) : Calls Tryz.prog 117 #[.pointer (some ⟨rg, 0, none⟩), .int .i64 kd] w fun e w' => ∃ x b B' bc' o' a' code', e = .returned (.tuple #[.int .i64 x, .bool b]) ∧ POK s (numR s.size kd ts) o code x b o' a' code' ∧ Mem w0 [box rg (.cells #[.slice B' o'.length bc', .string s, .int .i64 ((a' : Nat)), .int .i64 ((nextW s (a') : Nat)), .int .i64 code'] 124), rowl pnCells w0.heap.size 48 4 (.slice B' (o').length bc') (o'), fr] w' := by
 have hhd : (hd ts).size ≤ 200 := by rw [← hrs.hd,ByteArray.size_extract]; omega
 refine gcallsT Tryz.func117 U Tryz.ntmps117 (leb U) hM0 ?_
 refine Jb [(0,.pointer (some ⟨rg,0,none⟩)),(1,.int _ _)] ⟨U,U,O⟩ fun σ => Jg fun N1 hN1 => Jk (Jd (Jh U) U U U (Jd (Ji U) U U U (Ja (hN1 _ _ (Jb [(0,.pointer (some ⟨rg,0,none⟩)),(1,.int _ _)] ⟨U,U,O⟩ fun σ => Jg fun N2 hN2 => Jk (Jd (Ju (v := .pointer (some ⟨rg,0,none⟩)) U) U U U ?_))))))
 refine Km (Kb (vs := [.pointer (some ⟨rg,0,none⟩)]) Tryz.func118 U (by kernel_rfl) U) (fun w hM => (by have h9 := rdWord_any w rg s _ _ (next_ge _ _) (next_le hrs.le) (Jm (w0 := w0) 0 (off := 1) rfl rfl w hM) (Jm (w0 := w0) 0 (off := 2) rfl rfl w hM) (Jm (w0 := w0) 0 (off := 3) rfl rfl w hM); rw [hrs.hd] at h9; exact h9)) U U U ?_
 refine Jd (Ul U) U U U (Ja (hN2 _ _ (Jb [(0,.pointer (some ⟨rg,0,none⟩)),(1,.int _ _),(6,.string _)] ⟨U,U,U,O⟩ fun σ => Jg fun N3 hN3 => Jk (Jd (Ku U) U U U ?_))))
 refine My (fun v T' => ∃ n er b,v = .tuple #[.int .i64 n,er] ∧ AtoiEnd (hd ts) n er b ∧ T' = []) (Kb (vs := [.string _]) Tryz.func143 U (by kernel_rfl) U) (fun w hM => (atoi_any w (hd ts) (by omega) (hL.base hM)).mono fun _ _ ⟨n,er,b,h1,h2,h3⟩ => ⟨_,[],h1,⟨n,er,b,U,h2,U⟩,mem_nil h3⟩) U U U ?_
 rintro _ _ ⟨n,er,b,rfl,hAE,rfl⟩
 refine Jd (Ju (v := .tuple #[.int _ _,er]) U) U U U (Jd (Mg U U) U U U (Jd (Mw (v := _) U U) U U U (Jd (Jh U) U U U (Jd (Kx (v := _) U) U U U (Ja (hN3 _ _ (Jb [(0,.pointer (some ⟨rg,0,none⟩)),(1,.int _ _),(6,.string _),(7,.int _ _),(8,_)] ⟨U,U,U,U,U,O⟩ fun σ => Jg fun N4 hN4 => Jg fun N5 hN5 => Jk (Jd (Ju (v := _) U) U U U ?_))))))))
 refine Jd (y_errne (by kernel_rfl) hAE U U) U U U (Jd (Jn U) U U U ?_)
 refine Kh (want := false) U U U U U U (fun hg18 => ?_) (fun hg18 => ?_)
 have hg18d := hg18
 refine Jd (Je (Jf U)) U U U (Js U U U U hg18 ?_)
 refine Km (Kb (vs := [.int _ _]) Tryz.func144 U (by kernel_rfl) U) (fun w hM => itoa_any w n (Lib.atoiAll_bounds (hAE.ok (by assumption))).1 (Lib.atoiAll_bounds (hAE.ok (by assumption))).2 (hL.base hM)) U U U ?_
 refine Js U U U U hg18 (Jd (Je (Ku U)) U U U (Js U U U U hg18 (Jd (Je (Yd U U)) U U U (Jd (Jp U hg18 U) U U U (Ja (hN5 _ _ (Jb [(0,.pointer (some ⟨rg,0,none⟩)),(1,.int _ _),(7,.int _ _),(23,.bool _)] ⟨U,U,U,U,O⟩ fun σ => ?_)))))))
 refine Jt (b := _) U (fun hc23 => ?_) (fun hc23 => ?_)
 have hV : numV (hd ts) = none := by first | exact num_bad hAE (.inl (by assumption)) | exact num_bad hAE (.inr (fun h9 => by rw [h9] at hc23; simp at hc23))
 have hR : numR s.size kd ts = .bad 1 a := by
   rw [numR,hV]
   show Res.bad 1 (pos s.size ts) = _
   rw [hrs.pos]
 refine Jg fun N6 hN6 => Jk (Jd (Ju (v := .pointer (some ⟨rg,0,none⟩)) U) U U U ?_)
 refine Mu 0 (fun v r G => v = .tuple #[.int .i64 0,.bool false] ∧ r = box rg (.cells #[.slice B o.length bc,.string s,.int .i64 ((a : Nat)),.int .i64 ((nextW s (a) : Nat)),.int .i64 1] 124) ∧ G = []) (Kb (vs := [.pointer (some ⟨rg,0,none⟩),_]) Tryz.func56 U (by kernel_rfl) U) U (fun w fr1 hfr hM => (Wh _ w rg _ _ _ s _ _ _ fr1 1 hM).mono fun _ _ ⟨h1,h2⟩ => ⟨_,_,[],h1,⟨U,U,U⟩,h2⟩) U U U ?_
 rintro _ _ _ ⟨rfl,rfl,rfl⟩
 refine Jd (Mg U U) U U U (Jd (Mi U U) U U U (Jd (Jh U) U U U (Jd (Ji U) U U U (Ja (hN6 _ _ (gT [box rg _,rowl _ _ _ _ _ _,fr] U (Jb [(4,.int _ _),(5,.bool _)] ⟨U,U,O⟩ fun σ => ?_)))))))
 refine Ke fun w1 hM => ?_
 refine ⟨_,res2 rfl (rt (v := .int _ _) rfl) (rt (v := .bool _) rfl),?_⟩
 exact ⟨_,_,B,bc,o,_,_,rfl,Xt hR (by omega),Ko (T' := [_,_,fr]) rfl _ hM⟩
 have hV : numV (hd ts) = some n := num_good hAE (by assumption) (by rw [Xm] at hc23; simpa using hc23)
 refine Jw (hN4 _ _ (Jb [(0,.pointer (some ⟨rg,0,none⟩)),(1,.int _ _),(7,.int _ _)] ⟨U,U,U,O⟩ fun σ => Jg fun N7 hN7 => Jg fun N8 hN8 => Jk (Jd (Jf U) U U U (Jd (Me U U) U U U (Jd (Jn U) U U U ?_)))))
 refine Kh (want := false) U U U U U U (fun hg30 => ?_) (fun hg30 => ?_)
 have hg30d := odf hg30
 refine Jd (Je (Jf U)) U U U (Js U U U U hg30 (Jd (Je (Jf U)) U U U (Js U U U U hg30 ?_)))
 refine Km (Kb (vs := [.int _ _]) Tryz.func98 U (by kernel_rfl) U) (fun w hM => polMost_any w _) U U U ?_
 refine Js U U U U hg30 (Jd (Je (Mh U U)) U U U (Jd (Jp U hg30 U) U U U (Ja (hN8 _ _ (Jb [(0,.pointer (some ⟨rg,0,none⟩)),(1,.int _ _),(7,.int _ _),(35,.bool _)] ⟨U,U,U,U,O⟩ fun σ => ?_)))))
 refine Jt (b := _) U (fun hc35 => ?_) (fun hc35 => ?_)
 replace hc35 := odt hc35
 have hR : numR s.size kd ts = .bad 3 a := by
   rw [numR,hV]
   show (if n < 0 ∨ mostN kd < n then Res.bad 3 (pos s.size ts) else _) = _
   rw [if_pos (by omega),hrs.pos]
 refine Jg fun N9 hN9 => Jk (Jd (Ju (v := .pointer (some ⟨rg,0,none⟩)) U) U U U ?_)
 refine Mu 0 (fun v r G => v = .tuple #[.int .i64 0,.bool false] ∧ r = box rg (.cells #[.slice B o.length bc,.string s,.int .i64 ((a : Nat)),.int .i64 ((nextW s (a) : Nat)),.int .i64 3] 124) ∧ G = []) (Kb (vs := [.pointer (some ⟨rg,0,none⟩),_]) Tryz.func56 U (by kernel_rfl) U) U (fun w fr1 hfr hM => (Wh _ w rg _ _ _ s _ _ _ fr1 3 hM).mono fun _ _ ⟨h1,h2⟩ => ⟨_,_,[],h1,⟨U,U,U⟩,h2⟩) U U U ?_
 rintro _ _ _ ⟨rfl,rfl,rfl⟩
 refine Jd (Mg U U) U U U (Jd (Mi U U) U U U (Jd (Jh U) U U U (Jd (Ji U) U U U (Ja (hN9 _ _ (gT [box rg _,rowl _ _ _ _ _ _,fr] U (Jb [(4,.int _ _),(5,.bool _)] ⟨U,U,O⟩ fun σ => ?_)))))))
 refine Ke fun w1 hM => ?_
 refine ⟨_,res2 rfl (rt (v := .int _ _) rfl) (rt (v := .bool _) rfl),?_⟩
 exact ⟨_,_,B,bc,o,_,_,rfl,Xt hR (by omega),Ko (T' := [_,_,fr]) rfl _ hM⟩
 replace hc35 := odf hc35
 have hR : numR s.size kd ts = .ok (.leaf kd n) ts.tail := by
   rw [numR,hV]
   show (if n < 0 ∨ mostN kd < n then Res.bad 3 (pos s.size ts) else _) = _
   rw [if_neg (by omega)]
 refine Jw (hN7 _ _ (Jb [(0,.pointer (some ⟨rg,0,none⟩)),(1,.int _ _),(7,.int _ _)] ⟨U,U,U,O⟩ fun σ => Jg fun N10 hN10 => Jk (Jd (Ju (v := .pointer (some ⟨rg,0,none⟩)) U) U U U ?_)))
 refine Mu 0 (fun v r G => v = .tuple #[] ∧ r = box rg (.cells #[.slice B o.length bc,.string s,.int .i64 ((skipW s (nextW s a) : Nat)),.int .i64 ((nextW s (skipW s (nextW s a)) : Nat)),.int .i64 code] 124) ∧ G = []) (Kb (vs := [.pointer (some ⟨rg,0,none⟩)]) Tryz.func54 U (by kernel_rfl) U) U (fun w fr1 hfr hM => (QW _ w rg _ _ _ s _ fr1 hs _ _ _ U (next_le hrs.le) hM).mono fun _ _ ⟨h1,h2⟩ => ⟨_,_,[],h1,⟨U,U,U⟩,h2⟩) U U U ?_
 rintro _ _ _ ⟨rfl,rfl,rfl⟩
 refine Ja (hN10 _ _ (gT [box rg _,rowl _ _ _ _ _ _,fr] U (Jb [(0,.pointer (some ⟨rg,0,none⟩)),(1,.int _ _),(7,.int _ _)] ⟨U,U,U,O⟩ fun σ => Jg fun N11 hN11 => Jk (Jd (Ju (v := .pointer (some ⟨rg,0,none⟩)) U) U U U (Jd (Jy U) U U U (Jd (Jc KM U) U U U (Jd (Jf U) U U U (Jd (Jf U) U U U ?_))))))))
 refine Jd (Kd (vs := [(0,.int _ _),(1,.int _ _)]) (cells := #[_,_,.int .i64 0,.int .i64 0]) U (bd48_0_1 _ _)) U U U ?_
 refine Qk 0 1 (fun v r s1 G => ∃ B' bc',v = .int .i64 ((o).length : Nat) ∧ r = box rg (.cells #[.slice B' (o ++ [(⟨kd,n,0,0⟩ : PN)]).length bc',.string s,.int .i64 ((skipW s (nextW s a) : Nat)),.int .i64 ((nextW s (skipW s (nextW s a)) : Nat)),.int .i64 code] 124) ∧ s1 = rowl pnCells w0.heap.size 48 4 (.slice B' (o ++ [(⟨kd,n,0,0⟩ : PN)]).length bc') (o ++ [(⟨kd,n,0,0⟩ : PN)]) ∧ G = []) (Kb (vs := [.pointer _,.agg #[_,_,_,_]]) Tryz.func95 U (by kernel_rfl) U) U U U (fun w fr1 hfr hM => (Xa _ w rg _ _ s _ _ _ (o) fr1 hM (by omega) ((⟨kd,n,0,0⟩ : PN))).mono fun _ _ ⟨B',bc',h1,h2⟩ => ⟨_,_,_,[],h1,⟨B',bc',U,U,U,U⟩,h2⟩) U U U ?_
 rintro _ _ _ _ ⟨B48,bc48,rfl,rfl,rfl,rfl⟩
 refine Jd (Jh U) U U U (Jd (Ji U) U U U (Ja (hN11 _ _ (gT [box rg _,rowl _ _ _ _ _ _,fr] U (Jb [(4,.int _ _),(5,.bool _)] ⟨U,U,O⟩ fun σ => ?_)))))
 refine Ke fun w1 hM => ?_
 refine ⟨_,res2 rfl (rt (v := .int _ _) rfl) (rt (v := .bool _) rfl),?_⟩
 exact ⟨_,_,B48,bc48,_,_,_,rfl,pok_ok hR (by simp only [Tr.size]; omega) rfl hrs.next,Ko (T' := [_,_,fr]) rfl _ hM⟩
 have hg30d := odt hg30
 refine Jj U U U U hg30 U U (Jj U U U U hg30 U U (Jj U U U U hg30 U U (Jd (Jo U hg30 U) U U U (Ja (hN8 _ _ (Jb [(0,.pointer (some ⟨rg,0,none⟩)),(1,.int _ _),(7,.int _ _),(35,.bool _)] ⟨U,U,U,U,O⟩ fun σ => ?_))))))
 refine Jt (b := _) U (fun hc35 => ?_) (fun hc35 => ?_)
 have hR : numR s.size kd ts = .bad 3 a := by
   rw [numR,hV]
   show (if n < 0 ∨ mostN kd < n then Res.bad 3 (pos s.size ts) else _) = _
   rw [if_pos (by omega),hrs.pos]
 refine Jg fun N12 hN12 => Jk (Jd (Ju (v := .pointer (some ⟨rg,0,none⟩)) U) U U U ?_)
 refine Mu 0 (fun v r G => v = .tuple #[.int .i64 0,.bool false] ∧ r = box rg (.cells #[.slice B o.length bc,.string s,.int .i64 ((a : Nat)),.int .i64 ((nextW s (a) : Nat)),.int .i64 3] 124) ∧ G = []) (Kb (vs := [.pointer (some ⟨rg,0,none⟩),_]) Tryz.func56 U (by kernel_rfl) U) U (fun w fr1 hfr hM => (Wh _ w rg _ _ _ s _ _ _ fr1 3 hM).mono fun _ _ ⟨h1,h2⟩ => ⟨_,_,[],h1,⟨U,U,U⟩,h2⟩) U U U ?_
 rintro _ _ _ ⟨rfl,rfl,rfl⟩
 refine Jd (Mg U U) U U U (Jd (Mi U U) U U U (Jd (Jh U) U U U (Jd (Ji U) U U U (Ja (hN12 _ _ (gT [box rg _,rowl _ _ _ _ _ _,fr] U (Jb [(4,.int _ _),(5,.bool _)] ⟨U,U,O⟩ fun σ => ?_)))))))
 refine Ke fun w1 hM => ?_
 refine ⟨_,res2 rfl (rt (v := .int _ _) rfl) (rt (v := .bool _) rfl),?_⟩
 exact ⟨_,_,B,bc,o,_,_,rfl,Xt hR (by omega),Ko (T' := [_,_,fr]) rfl _ hM⟩
 cases hc35
 have hg18d := hg18
 refine Jj U U U U hg18 U U (Jj U U U U hg18 U U (Jj U U U U hg18 U U (Jd (Jo U hg18 U) U U U (Ja (hN5 _ _ (Jb [(0,.pointer (some ⟨rg,0,none⟩)),(1,.int _ _),(7,.int _ _),(23,.bool _)] ⟨U,U,U,U,O⟩ fun σ => ?_))))))
 refine Jt (b := _) U (fun hc23 => ?_) (fun hc23 => ?_)
 have hV : numV (hd ts) = none := by first | exact num_bad hAE (.inl (by assumption)) | exact num_bad hAE (.inr (fun h9 => by rw [h9] at hc23; simp at hc23))
 have hR : numR s.size kd ts = .bad 1 a := by
   rw [numR,hV]
   show Res.bad 1 (pos s.size ts) = _
   rw [hrs.pos]
 refine Jg fun N13 hN13 => Jk (Jd (Ju (v := .pointer (some ⟨rg,0,none⟩)) U) U U U ?_)
 refine Mu 0 (fun v r G => v = .tuple #[.int .i64 0,.bool false] ∧ r = box rg (.cells #[.slice B o.length bc,.string s,.int .i64 ((a : Nat)),.int .i64 ((nextW s (a) : Nat)),.int .i64 1] 124) ∧ G = []) (Kb (vs := [.pointer (some ⟨rg,0,none⟩),_]) Tryz.func56 U (by kernel_rfl) U) U (fun w fr1 hfr hM => (Wh _ w rg _ _ _ s _ _ _ fr1 1 hM).mono fun _ _ ⟨h1,h2⟩ => ⟨_,_,[],h1,⟨U,U,U⟩,h2⟩) U U U ?_
 rintro _ _ _ ⟨rfl,rfl,rfl⟩
 refine Jd (Mg U U) U U U (Jd (Mi U U) U U U (Jd (Jh U) U U U (Jd (Ji U) U U U (Ja (hN13 _ _ (gT [box rg _,rowl _ _ _ _ _ _,fr] U (Jb [(4,.int _ _),(5,.bool _)] ⟨U,U,O⟩ fun σ => ?_)))))))
 refine Ke fun w1 hM => ?_
 refine ⟨_,res2 rfl (rt (v := .int _ _) rfl) (rt (v := .bool _) rfl),?_⟩
 exact ⟨_,_,B,bc,o,_,_,rfl,Xt hR (by omega),Ko (T' := [_,_,fr]) rfl _ hM⟩
 cases hc23
end Go.Proofs.YtbkameioedmlkaaGreatDoor
namespace Go.Proofs.YtbkameioedmlkaaGreatDoor
open Go.RowKit Go.Cf
def ListH (w0 : World) (s : ByteArray) (rg n : Nat) : Prop := ∀ (lv : Nat) (vi : Int) (w : World) (B : Option Addr) (bc : Nat) (code : Int) (o : List PN) (fr : Reg) (a : Nat) (ts : List Tk), lv ≤ 2 → vi = (lv : Int) → 3 * ts.length + 3 ≤ n + lv → RS s a ts → o.length + ts.length ≤ 800 → Mem w0 [box rg (.cells #[.slice B o.length bc, .string s, .int .i64 ((a : Nat)), .int .i64 ((nextW s (a) : Nat)), .int .i64 code] 124), rowl pnCells w0.heap.size 48 4 (.slice B (o).length bc) (o), fr] w →
    Calls Tryz.prog 55 #[.pointer (some ⟨rg, 0, none⟩), .int .i64 vi] w fun e w' => ∃ x b B' bc' o' a' code', e = .returned (.tuple #[.int .i64 x, .bool b]) ∧ POK s (rd s.size n lv none ts) o code x b o' a' code' ∧ Mem w0 [box rg (.cells #[.slice B' o'.length bc', .string s, .int .i64 ((a' : Nat)), .int .i64 ((nextW s (a') : Nat)), .int .i64 code'] 124), rowl pnCells w0.heap.size 48 4 (.slice B' (o').length bc') (o'), fr] w'
def FacH (w0 : World) (s : ByteArray) (rg n : Nat) : Prop := ∀ (w : World) (B : Option Addr) (bc : Nat) (code : Int) (o : List PN) (fr : Reg) (a : Nat) (ts : List Tk), 3 * ts.length + 1 ≤ n → RS s a ts → o.length + ts.length ≤ 800 → Mem w0 [box rg (.cells #[.slice B o.length bc, .string s, .int .i64 ((a : Nat)), .int .i64 ((nextW s (a) : Nat)), .int .i64 code] 124), rowl pnCells w0.heap.size 48 4 (.slice B (o).length bc) (o), fr] w →
    Calls Tryz.prog 93 #[.pointer (some ⟨rg, 0, none⟩)] w fun e w' => ∃ x b B' bc' o' a' code', e = .returned (.tuple #[.int .i64 x, .bool b]) ∧ POK s (rd s.size n 2 none ts) o code x b o' a' code' ∧ Mem w0 [box rg (.cells #[.slice B' o'.length bc', .string s, .int .i64 ((a' : Nat)), .int .i64 ((nextW s (a') : Nat)), .int .i64 code'] 124), rowl pnCells w0.heap.size 48 4 (.slice B' (o').length bc') (o'), fr] w'
end Go.Proofs.YtbkameioedmlkaaGreatDoor
namespace Go.Proofs.YtbkameioedmlkaaGreatDoor
open Go.RowKit Go.Cf
set_option maxRecDepth 10000
theorem bd48_0_2 (x1 : Int) (x2 : Int) : Tryz.prog.built 48 [(0, .int .i64 x1), (2, .int .i64 x2)] = some #[.int .i64 x1, .int .i64 0, .int .i64 x2, .int .i64 0] := by kernel_rfl
theorem bd48_0 (x1 : Int) : Tryz.prog.built 48 [(0, .int .i64 x1)] = some #[.int .i64 x1, .int .i64 0, .int .i64 0, .int .i64 0] := by kernel_rfl
set_option maxHeartbeats 16000000 in
theorem rdFactor_step (w0 : World) (s : ByteArray) (hs : s.size ≤ 200) (hL : LaidP w0) (rg n : Nat) (hF : FacH w0 s rg n) (hLi : ListH w0 s rg n) : FacH w0 s rg (n + 1) := by
 intro w B bc code o fr a ts hfu hrs hol hM0
 have hrd : rd s.size (n + 1) 2 none ts = fac s.size (rd s.size n 2 none) (rd s.size n 0 none) ts := by rw [rd,if_pos rfl]
 refine gcallsT Tryz.func93 U Tryz.ntmps93 (leb U) hM0 ?_
 refine Jb [(0,.pointer (some ⟨rg,0,none⟩))] ⟨U,O⟩ fun σ => Jg fun N1 hN1 => Jk (Jd (Jh U) U U U (Jd (Ji U) U U U (Ja (hN1 _ _ (Jb [(0,.pointer (some ⟨rg,0,none⟩))] ⟨U,O⟩ fun σ => Jg fun N2 hN2 => Kn (Jg fun N3 hN3 => Jk (Jd (Ju (v := .pointer (some ⟨rg,0,none⟩)) U) U U U ?_)))))))
 refine Mu 0 (fun v r G => ∃ a' ts',v = .bool (decide (hd ts = wNot)) ∧ r = box rg (.cells #[.slice B (o).length bc,.string s,.int .i64 ((a' : Nat)),.int .i64 ((nextW s (a') : Nat)),.int .i64 code] 124) ∧ RS s a' ts' ∧ ts' = (if hd ts = wNot then ts.tail else ts) ∧ G = []) (Kb (vs := [.pointer (some ⟨rg,0,none⟩),_]) Tryz.func94 U (by kernel_rfl) U) U (fun w fr1 hfr hM => (Uv _ w rg _ _ _ s _ fr1 hs _ ts hrs _ hM).mono fun _ _ ⟨a',ts',h1,h2,h3,h4⟩ => ⟨_,_,[],h1,⟨a',ts',U,U,h2,h3,U⟩,h4⟩) U U U ?_
 rintro _ _ _ ⟨a10,ts10,rfl,rfl,hrs10,hts10,rfl⟩
 refine Jd (Ji U) U U U (Ja (hN3 _ _ (gT [box rg _,rowl _ _ _ _ _ _,fr] U (Jb [(0,.pointer (some ⟨rg,0,none⟩)),(8,.bool _)] ⟨U,U,O⟩ fun σ => ?_))))
 refine Jt (b := _) U (fun hc8 => ?_) (fun hc8 => ?_)
 replace hc8 := odt hc8
 have ht10 : ts10 = ts.tail := by rw [hts10,if_pos hc8]
 have hpl := Wa (ts := ts) (by rw [hc8]; decide)
 have htl10 : ts10.length + 1 = ts.length := by rw [ht10]; exact hpl
 refine Jg fun N4 hN4 => Jk (Jd (Ju (v := .pointer (some ⟨rg,0,none⟩)) U) U U U ?_)
 refine Qk 0 1 (fun v r s1 G => ∃ x b B' bc' o' a' code',v = .tuple #[.int .i64 x,.bool b] ∧ r = box rg (.cells #[.slice B' o'.length bc',.string s,.int .i64 ((a' : Nat)),.int .i64 ((nextW s (a') : Nat)),.int .i64 code'] 124) ∧ s1 = rowl pnCells w0.heap.size 48 4 (.slice B' (o').length bc') (o') ∧ G = [] ∧ POK s (rd s.size n 2 none ts10) (o) code x b o' a' code') (Kb (vs := [.pointer (some ⟨rg,0,none⟩)]) Tryz.func93 U (by kernel_rfl) U) U U U (fun w fr1 hfr hM => (hF w _ _ _ o fr1 _ ts10 (by omega) hrs10 (by omega) hM).mono fun _ _ ⟨x,b,B',bc',o',a',code',h1,h2,h3⟩ => ⟨_,_,_,[],h1,⟨x,b,B',bc',o',a',code',U,U,U,U,h2⟩,h3⟩) U U U ?_
 rintro _ _ _ _ ⟨x13,b13,B13,bc13,o13,a13,code13,rfl,rfl,rfl,rfl,hp13⟩
 refine Jd (Ju (v := .tuple #[.int _ _,.bool _]) U) U U U (Jd (Mg U U) U U U (Jd (Mi U U) U U U (Jd (Jh U) U U U (Jd (Ji U) U U U (Ja (hN4 _ _ (gT [box rg _,rowl _ _ _ _ _ _,fr] U (Jb [(0,.pointer (some ⟨rg,0,none⟩)),(4,.int _ _),(5,.bool _)] ⟨U,U,U,O⟩ fun σ => ?_))))))))
 refine Jg fun N5 hN5 => Jg fun N6 hN6 => Jk (Jd (Jn U) U U U (Jd (Mp U) U U U (Ja (hN6 _ _ (Jb [(0,.pointer (some ⟨rg,0,none⟩)),(4,.int _ _),(17,.bool _)] ⟨U,U,U,O⟩ fun σ => ?_)))))
 refine Jt (b := _) U (fun hc17 => ?_) (fun hc17 => ?_)
 replace hc17 := Ub hc17
 have hb13 : b13 = false := by simpa using hc17
 obtain ⟨hR13,ho13⟩ := pok_no hp13 hb13
 refine Jg fun N7 hN7 => Jk (Jd (Jh U) U U U (Jd (Ji U) U U U (Ja (hN7 _ _ (Jb [(2,.int _ _),(3,.bool _)] ⟨U,U,O⟩ fun σ => ?_)))))
 refine Ke fun w1 hM => ?_
 refine ⟨_,res2 rfl (rt (v := .int _ _) rfl) (rt (v := .bool _) rfl),?_⟩
 have hR : rd s.size (n + 1) 2 none ts = .bad code13 a13 := by rw [hrd,fac,if_pos hc8,← ht10,hR13]; rfl
 exact ⟨_,_,_,_,_,_,_,rfl,Xt hR ho13,Ko (T' := [_,_,fr]) rfl _ hM⟩
 replace hc17 := Ue hc17
 obtain ⟨t13,us13,hR13,hx13,ho13,hrt13,hcd13⟩ := pok_yes hp13 (by first | assumption | simpa using hc17)
 have hsz13 : t13.size + us13.length ≤ ts10.length := (Zr s.size n 2 none ts10 t13 us13 (fun _ h => by cases h) hR13).2
 subst hx13
 subst ho13
 obtain rfl : code = code13 := hcd13.symm
 refine Jw (hN5 _ _ (Jb [(0,.pointer (some ⟨rg,0,none⟩)),(4,.int _ _)] ⟨U,U,O⟩ fun σ => Jg fun N8 hN8 => Jk (Jd (Ju (v := .pointer (some ⟨rg,0,none⟩)) U) U U U (Jd (Jy U) U U U (Jd (Jc KM U) U U U (Jd (Jf U) U U U (Jd (Kd (vs := [(0,_),(2,.int _ _)]) (cells := #[_,.int .i64 0,_,.int .i64 0]) U (bd48_0_2 _ _)) U U U ?_)))))))
 refine Qk 0 1 (fun v r s1 G => ∃ B' bc',v = .int .i64 ((o ++ post t13 o.length).length : Nat) ∧ r = box rg (.cells #[.slice B' (o ++ post t13 o.length ++ [(⟨5,0,((o.length + t13.size : Nat) : Int) - 1,0⟩ : PN)]).length bc',.string s,.int .i64 ((a13 : Nat)),.int .i64 ((nextW s (a13) : Nat)),.int .i64 code] 124) ∧ s1 = rowl pnCells w0.heap.size 48 4 (.slice B' (o ++ post t13 o.length ++ [(⟨5,0,((o.length + t13.size : Nat) : Int) - 1,0⟩ : PN)]).length bc') (o ++ post t13 o.length ++ [(⟨5,0,((o.length + t13.size : Nat) : Int) - 1,0⟩ : PN)]) ∧ G = []) (Kb (vs := [.pointer _,.agg #[_,_,_,_]]) Tryz.func95 U (by kernel_rfl) U) U U U (fun w fr1 hfr hM => (Xa _ w rg _ _ s _ _ _ (o ++ post t13 o.length) fr1 hM (by rw [Wy]; omega) ((⟨5,0,((o.length + t13.size : Nat) : Int) - 1,0⟩ : PN))).mono fun _ _ ⟨B',bc',h1,h2⟩ => ⟨_,_,_,[],h1,⟨B',bc',U,U,U,U⟩,h2⟩) U U U ?_
 rintro _ _ _ _ ⟨B23,bc23,rfl,rfl,rfl,rfl⟩
 refine Jd (Jh U) U U U (Jd (Ji U) U U U (Ja (hN8 _ _ (gT [box rg _,rowl _ _ _ _ _ _,fr] U (Jb [(2,.int _ _),(3,.bool _)] ⟨U,U,O⟩ fun σ => ?_)))))
 refine Ke fun w1 hM => ?_
 refine ⟨_,res2 rfl (rt (v := .int _ _) rfl) (rt (v := .bool _) rfl),?_⟩
 have hR : rd s.size (n + 1) 2 none ts = .ok (.neg t13) us13 := by rw [hrd,fac,if_pos hc8,← ht10,hR13]; rfl
 exact ⟨_,_,B23,bc23,_,_,_,rfl,pok_ok hR (by rw [Wy,size_neg]; omega) (post_neg_app o t13) hrt13,Ko (T' := [_,_,fr]) rfl _ hM⟩
 replace hc8 := odf hc8
 obtain rfl : ts = ts10 := by rw [hts10,if_neg hc8]
 obtain rfl : a = a10 := by rw [← hrs.pos,← hrs10.pos]
 refine Jg fun N9 hN9 => Jk (Jd (Ju (v := .pointer (some ⟨rg,0,none⟩)) U) U U U ?_)
 refine Mu 0 (fun v r G => ∃ a' ts',v = .bool (decide (hd ts = wL)) ∧ r = box rg (.cells #[.slice B (o).length bc,.string s,.int .i64 ((a' : Nat)),.int .i64 ((nextW s (a') : Nat)),.int .i64 code] 124) ∧ RS s a' ts' ∧ ts' = (if hd ts = wL then ts.tail else ts) ∧ G = []) (Kb (vs := [.pointer (some ⟨rg,0,none⟩),_]) Tryz.func94 U (by kernel_rfl) U) U (fun w fr1 hfr hM => (Uv _ w rg _ _ _ s _ fr1 hs _ ts hrs _ hM).mono fun _ _ ⟨a',ts',h1,h2,h3,h4⟩ => ⟨_,_,[],h1,⟨a',ts',U,U,h2,h3,U⟩,h4⟩) U U U ?_
 rintro _ _ _ ⟨a26,ts26,rfl,rfl,hrs26,hts26,rfl⟩
 refine Jd (Ji U) U U U (Ja (hN9 _ _ (gT [box rg _,rowl _ _ _ _ _ _,fr] U (Jb [(0,.pointer (some ⟨rg,0,none⟩)),(24,.bool _)] ⟨U,U,O⟩ fun σ => ?_))))
 refine Jt (b := _) U (fun hc24 => ?_) (fun hc24 => ?_)
 replace hc24 := odt hc24
 have ht26 : ts26 = ts.tail := by rw [hts26,if_pos hc24]
 have hpl := Wa (ts := ts) (by rw [hc24]; decide)
 have htl26 : ts26.length + 1 = ts.length := by rw [ht26]; exact hpl
 refine Jg fun N10 hN10 => Jk (Jd (Ju (v := .pointer (some ⟨rg,0,none⟩)) U) U U U ?_)
 refine Qk 0 1 (fun v r s1 G => ∃ x b B' bc' o' a' code',v = .tuple #[.int .i64 x,.bool b] ∧ r = box rg (.cells #[.slice B' o'.length bc',.string s,.int .i64 ((a' : Nat)),.int .i64 ((nextW s (a') : Nat)),.int .i64 code'] 124) ∧ s1 = rowl pnCells w0.heap.size 48 4 (.slice B' (o').length bc') (o') ∧ G = [] ∧ POK s (rd s.size n 0 none ts26) (o) code x b o' a' code') (Kb (vs := [.pointer (some ⟨rg,0,none⟩),_]) Tryz.func55 U (by kernel_rfl) U) U U U (fun w fr1 hfr hM => (hLi 0 _ w _ _ _ o fr1 _ ts26 (by omega) U (by omega) hrs26 (by omega) hM).mono fun _ _ ⟨x,b,B',bc',o',a',code',h1,h2,h3⟩ => ⟨_,_,_,[],h1,⟨x,b,B',bc',o',a',code',U,U,U,U,h2⟩,h3⟩) U U U ?_
 rintro _ _ _ _ ⟨x29,b29,B29,bc29,o29,a29,code29,rfl,rfl,rfl,rfl,hp29⟩
 refine Jd (Ju (v := .tuple #[.int _ _,.bool _]) U) U U U (Jd (Mg U U) U U U (Jd (Mi U U) U U U (Jd (Jh U) U U U (Jd (Ji U) U U U (Ja (hN10 _ _ (gT [box rg _,rowl _ _ _ _ _ _,fr] U (Jb [(0,.pointer (some ⟨rg,0,none⟩)),(6,.int _ _),(7,.bool _)] ⟨U,U,U,O⟩ fun σ => ?_))))))))
 refine Jg fun N11 hN11 => Jg fun N12 hN12 => Jk (Jd (Jn U) U U U (Jd (Jn U) U U U ?_))
 refine Kh (want := true) U U U U U U (fun hg33 => ?_) (fun hg33 => ?_)
 have hg33d := hg33
 obtain ⟨t29,us29,hR29,hx29,ho29,hrt29,hcd29⟩ := pok_yes hp29 (by first | assumption | simpa using hg33d)
 have hsz29 : t29.size + us29.length ≤ ts26.length := (Zr s.size n 0 none ts26 t29 us29 (fun _ h => by cases h) hR29).2
 subst hx29
 subst ho29
 obtain rfl : code = code29 := hcd29.symm
 refine Jd (Je (Ju (v := .pointer (some ⟨rg,0,none⟩)) U)) U U U (Js U U U U hg33 ?_)
 refine Mu 0 (fun v r G => ∃ a' ts',v = .bool (decide (hd us29 = wR)) ∧ r = box rg (.cells #[.slice B29 (o ++ post t29 o.length).length bc29,.string s,.int .i64 ((a' : Nat)),.int .i64 ((nextW s (a') : Nat)),.int .i64 code] 124) ∧ RS s a' ts' ∧ ts' = (if hd us29 = wR then us29.tail else us29) ∧ G = []) (Kb (vs := [.pointer (some ⟨rg,0,none⟩),_]) Tryz.func94 U (by kernel_rfl) U) U (fun w fr1 hfr hM => (Uv _ w rg _ _ _ s _ fr1 hs _ us29 hrt29 _ hM).mono fun _ _ ⟨a',ts',h1,h2,h3,h4⟩ => ⟨_,_,[],h1,⟨a',ts',U,U,h2,h3,U⟩,h4⟩) U U U ?_
 rintro _ _ _ ⟨a35,ts35,rfl,rfl,hrs35,hts35,rfl⟩
 refine Js U U U U hg33 (Jd (Je (Mp U)) U U U (Jd (Jo U hg33 U) U U U (Ja (hN12 _ _ (gT [box rg _,rowl _ _ _ _ _ _,fr] U (Jb [(0,.pointer (some ⟨rg,0,none⟩)),(6,.int _ _),(7,.bool _),(37,.bool _)] ⟨U,U,U,U,O⟩ fun σ => ?_))))))
 refine Jt (b := _) U (fun hc37 => ?_) (fun hc37 => ?_)
 replace hc37 := Ub hc37
 have hw : ¬ hd us29 = wR := by simpa using hc37
 obtain rfl : us29 = ts35 := by rw [hts35,if_neg hw]
 obtain rfl : a29 = a35 := by rw [← hrt29.pos,← hrs35.pos]
 refine Jg fun N13 hN13 => Jk (Jd (Ju (v := .pointer (some ⟨rg,0,none⟩)) U) U U U ?_)
 refine Mu 0 (fun v r G => v = .tuple #[.int .i64 0,.bool false] ∧ r = box rg (.cells #[.slice B29 (o ++ post t29 o.length).length bc29,.string s,.int .i64 ((a29 : Nat)),.int .i64 ((nextW s (a29) : Nat)),.int .i64 1] 124) ∧ G = []) (Kb (vs := [.pointer (some ⟨rg,0,none⟩),_]) Tryz.func56 U (by kernel_rfl) U) U (fun w fr1 hfr hM => (Wh _ w rg _ _ _ s _ _ _ fr1 1 hM).mono fun _ _ ⟨h1,h2⟩ => ⟨_,_,[],h1,⟨U,U,U⟩,h2⟩) U U U ?_
 rintro _ _ _ ⟨rfl,rfl,rfl⟩
 refine Jd (Mg U U) U U U (Jd (Mi U U) U U U (Jd (Jh U) U U U (Jd (Ji U) U U U (Ja (hN13 _ _ (gT [box rg _,rowl _ _ _ _ _ _,fr] U (Jb [(2,.int _ _),(3,.bool _)] ⟨U,U,O⟩ fun σ => ?_)))))))
 refine Ke fun w1 hM => ?_
 refine ⟨_,res2 rfl (rt (v := .int _ _) rfl) (rt (v := .bool _) rfl),?_⟩
 have hR : rd s.size (n + 1) 2 none ts = .bad 1 a29 := by
   rw [hrd,fac,if_neg hc8,if_pos hc24,← ht26,hR29]
   show (if hd us29 = wR then _ else Res.bad 1 (pos s.size us29)) = _
   rw [if_neg hw,hrt29.pos]
 exact ⟨_,_,_,_,_,_,_,rfl,Xt hR (by rw [Wy]; omega),Ko (T' := [_,_,fr]) rfl _ hM⟩
 replace hc37 := Ue hc37
 refine Jw (hN11 _ _ (Jb [(6,.int _ _),(7,.bool _)] ⟨U,U,O⟩ fun σ => Jg fun N14 hN14 => Jk (Jd (Jf U) U U U (Jd (Jn U) U U U (Jd (Jh U) U U U (Jd (Ji U) U U U (Ja (hN14 _ _ ?_))))))))
 refine Jb [(2,.int _ _),(3,.bool _)] ⟨U,U,O⟩ fun σ => ?_
 refine Ke fun w1 hM => ?_
 refine ⟨_,res2 rfl (rt (v := .int _ _) rfl) (rt (v := .bool _) rfl),?_⟩
 first
 | (have hw : hd us29 = wR := by simpa using hc37
    have hR : rd s.size (n + 1) 2 none ts = .ok t29 ts35 := by
      rw [hrd,fac,if_neg hc8,if_pos hc24,← ht26,hR29]
      show (if hd us29 = wR then Res.ok t29 us29.tail else _) = _
      rw [if_pos hw,hts35,if_pos hw]
    exact ⟨_,_,B29,bc29,_,_,_,rfl,pok_ok2 (by assumption) hR rfl rfl hrs35,Ko (T' := [_,_,fr]) rfl _ hM⟩)
 | (obtain ⟨hR29,ho29⟩ := pok_no hp29 (by assumption)
    have hR : rd s.size (n + 1) 2 none ts = .bad code29 a29 := by rw [hrd,fac,if_neg hc8,if_pos hc24,← ht26,hR29]; rfl
    exact ⟨_,_,_,_,_,_,_,rfl,pok_bad2 (by assumption) hR ho29,Ko (T' := [_,_,fr]) rfl _ hM⟩)
 have hg33d := hg33
 refine Jj U U U U hg33 U U (Jj U U U U hg33 U U (Jd (Jp U hg33 U) U U U (Ja (hN12 _ _ (Jb [(0,.pointer (some ⟨rg,0,none⟩)),(6,.int _ _),(7,.bool _),(37,.bool _)] ⟨U,U,U,U,O⟩ fun σ => ?_)))))
 refine Jt (b := _) U (fun hc37 => ?_) (fun hc37 => ?_)
 cases hc37
 refine Jw (hN11 _ _ (Jb [(6,.int _ _),(7,.bool _)] ⟨U,U,O⟩ fun σ => Jg fun N15 hN15 => Jk (Jd (Jf U) U U U (Jd (Jn U) U U U (Jd (Jh U) U U U (Jd (Ji U) U U U (Ja (hN15 _ _ ?_))))))))
 refine Jb [(2,.int _ _),(3,.bool _)] ⟨U,U,O⟩ fun σ => ?_
 refine Ke fun w1 hM => ?_
 refine ⟨_,res2 rfl (rt (v := .int _ _) rfl) (rt (v := .bool _) rfl),?_⟩
 first
 | (have hw : hd us29 = wR := by simpa using hc37
    have hR : rd s.size (n + 1) 2 none ts = .ok t29 ts35 := by
      rw [hrd,fac,if_neg hc8,if_pos hc24,← ht26,hR29]
      show (if hd us29 = wR then Res.ok t29 us29.tail else _) = _
      rw [if_pos hw,hts35,if_pos hw]
    exact ⟨_,_,B29,bc29,_,_,_,rfl,pok_ok2 (by assumption) hR rfl rfl hrs35,Ko (T' := [_,_,fr]) rfl _ hM⟩)
 | (obtain ⟨hR29,ho29⟩ := pok_no hp29 (by assumption)
    have hR : rd s.size (n + 1) 2 none ts = .bad code29 a29 := by rw [hrd,fac,if_neg hc8,if_pos hc24,← ht26,hR29]; rfl
    exact ⟨_,_,_,_,_,_,_,rfl,pok_bad2 (by assumption) hR ho29,Ko (T' := [_,_,fr]) rfl _ hM⟩)
 replace hc24 := odf hc24
 obtain rfl : ts = ts26 := by rw [hts26,if_neg hc24]
 obtain rfl : a = a26 := by rw [← hrs.pos,← hrs26.pos]
 refine Jg fun N16 hN16 => Jk (Jd (Ju (v := .pointer (some ⟨rg,0,none⟩)) U) U U U ?_)
 refine Mu 0 (fun v r G => ∃ a' ts',v = .bool (decide (hd ts = wScore)) ∧ r = box rg (.cells #[.slice B (o).length bc,.string s,.int .i64 ((a' : Nat)),.int .i64 ((nextW s (a') : Nat)),.int .i64 code] 124) ∧ RS s a' ts' ∧ ts' = (if hd ts = wScore then ts.tail else ts) ∧ G = []) (Kb (vs := [.pointer (some ⟨rg,0,none⟩),_]) Tryz.func94 U (by kernel_rfl) U) U (fun w fr1 hfr hM => (Uv _ w rg _ _ _ s _ fr1 hs _ ts hrs _ hM).mono fun _ _ ⟨a',ts',h1,h2,h3,h4⟩ => ⟨_,_,[],h1,⟨a',ts',U,U,h2,h3,U⟩,h4⟩) U U U ?_
 rintro _ _ _ ⟨a46,ts46,rfl,rfl,hrs46,hts46,rfl⟩
 refine Jd (Ji U) U U U (Ja (hN16 _ _ (gT [box rg _,rowl _ _ _ _ _ _,fr] U (Jb [(0,.pointer (some ⟨rg,0,none⟩)),(44,.bool _)] ⟨U,U,O⟩ fun σ => ?_))))
 refine Jt (b := _) U (fun hc44 => ?_) (fun hc44 => ?_)
 replace hc44 := odt hc44
 have ht46 : ts46 = ts.tail := by rw [hts46,if_pos hc44]
 have hpl := Wa (ts := ts) (by rw [hc44]; decide)
 have htl46 : ts46.length + 1 = ts.length := by rw [ht46]; exact hpl
 refine Jg fun N17 hN17 => Jk (Jd (Ju (v := .pointer (some ⟨rg,0,none⟩)) U) U U U ?_)
 refine Qk 0 1 (fun v r s1 G => ∃ x b B' bc' o' a' code',v = .tuple #[.int .i64 x,.bool b] ∧ r = box rg (.cells #[.slice B' o'.length bc',.string s,.int .i64 ((a' : Nat)),.int .i64 ((nextW s (a') : Nat)),.int .i64 code'] 124) ∧ s1 = rowl pnCells w0.heap.size 48 4 (.slice B' (o').length bc') (o') ∧ G = [] ∧ POK s (numR s.size 1 ts46) (o) code x b o' a' code') (Kb (vs := [.pointer (some ⟨rg,0,none⟩),_]) Tryz.func117 U (by kernel_rfl) U) U U U (fun w fr1 hfr hM => (rdNumber_any _ w rg _ _ s _ o fr1 hs _ ts46 hrs46 _ (by omega) hL hM).mono fun _ _ ⟨x,b,B',bc',o',a',code',h1,h2,h3⟩ => ⟨_,_,_,[],h1,⟨x,b,B',bc',o',a',code',U,U,U,U,h2⟩,h3⟩) U U U ?_
 rintro _ _ _ _ ⟨x48,b48,B48,bc48,o48,a48,code48,rfl,rfl,rfl,rfl,hp48⟩
 refine Jd (Mg U U) U U U (Jd (Mi U U) U U U (Jd (Jh U) U U U (Jd (Ji U) U U U (Ja (hN17 _ _ (gT [box rg _,rowl _ _ _ _ _ _,fr] U (Jb [(2,.int _ _),(3,.bool _)] ⟨U,U,O⟩ fun σ => ?_)))))))
 refine Ke fun w1 hM => ?_
 refine ⟨_,res2 rfl (rt (v := .int _ _) rfl) (rt (v := .bool _) rfl),?_⟩
 have hR : rd s.size (n + 1) 2 none ts = numR s.size 1 ts46 := by rw [hrd,fac,if_neg hc8,if_neg hc24,if_pos hc44,ht46]
 exact ⟨x48,b48,B48,bc48,o48,a48,code48,rfl,by rw [hR]; exact hp48,Ko (T' := [_,_,fr]) rfl _ hM⟩
 replace hc44 := odf hc44
 obtain rfl : ts = ts46 := by rw [hts46,if_neg hc44]
 obtain rfl : a = a46 := by rw [← hrs.pos,← hrs46.pos]
 refine Jg fun N18 hN18 => Jk (Jd (Ju (v := .pointer (some ⟨rg,0,none⟩)) U) U U U ?_)
 refine Mu 0 (fun v r G => ∃ a' ts',v = .bool (decide (hd ts = wUser)) ∧ r = box rg (.cells #[.slice B (o).length bc,.string s,.int .i64 ((a' : Nat)),.int .i64 ((nextW s (a') : Nat)),.int .i64 code] 124) ∧ RS s a' ts' ∧ ts' = (if hd ts = wUser then ts.tail else ts) ∧ G = []) (Kb (vs := [.pointer (some ⟨rg,0,none⟩),_]) Tryz.func94 U (by kernel_rfl) U) U (fun w fr1 hfr hM => (Uv _ w rg _ _ _ s _ fr1 hs _ ts hrs _ hM).mono fun _ _ ⟨a',ts',h1,h2,h3,h4⟩ => ⟨_,_,[],h1,⟨a',ts',U,U,h2,h3,U⟩,h4⟩) U U U ?_
 rintro _ _ _ ⟨a53,ts53,rfl,rfl,hrs53,hts53,rfl⟩
 refine Jd (Ji U) U U U (Ja (hN18 _ _ (gT [box rg _,rowl _ _ _ _ _ _,fr] U (Jb [(0,.pointer (some ⟨rg,0,none⟩)),(51,.bool _)] ⟨U,U,O⟩ fun σ => ?_))))
 refine Jt (b := _) U (fun hc51 => ?_) (fun hc51 => ?_)
 replace hc51 := odt hc51
 have ht53 : ts53 = ts.tail := by rw [hts53,if_pos hc51]
 have hpl := Wa (ts := ts) (by rw [hc51]; decide)
 have htl53 : ts53.length + 1 = ts.length := by rw [ht53]; exact hpl
 refine Jg fun N19 hN19 => Jk (Jd (Ju (v := .pointer (some ⟨rg,0,none⟩)) U) U U U ?_)
 refine Qk 0 1 (fun v r s1 G => ∃ x b B' bc' o' a' code',v = .tuple #[.int .i64 x,.bool b] ∧ r = box rg (.cells #[.slice B' o'.length bc',.string s,.int .i64 ((a' : Nat)),.int .i64 ((nextW s (a') : Nat)),.int .i64 code'] 124) ∧ s1 = rowl pnCells w0.heap.size 48 4 (.slice B' (o').length bc') (o') ∧ G = [] ∧ POK s (numR s.size 4 ts53) (o) code x b o' a' code') (Kb (vs := [.pointer (some ⟨rg,0,none⟩),_]) Tryz.func117 U (by kernel_rfl) U) U U U (fun w fr1 hfr hM => (rdNumber_any _ w rg _ _ s _ o fr1 hs _ ts53 hrs53 _ (by omega) hL hM).mono fun _ _ ⟨x,b,B',bc',o',a',code',h1,h2,h3⟩ => ⟨_,_,_,[],h1,⟨x,b,B',bc',o',a',code',U,U,U,U,h2⟩,h3⟩) U U U ?_
 rintro _ _ _ _ ⟨x55,b55,B55,bc55,o55,a55,code55,rfl,rfl,rfl,rfl,hp55⟩
 refine Jd (Mg U U) U U U (Jd (Mi U U) U U U (Jd (Jh U) U U U (Jd (Ji U) U U U (Ja (hN19 _ _ (gT [box rg _,rowl _ _ _ _ _ _,fr] U (Jb [(2,.int _ _),(3,.bool _)] ⟨U,U,O⟩ fun σ => ?_)))))))
 refine Ke fun w1 hM => ?_
 refine ⟨_,res2 rfl (rt (v := .int _ _) rfl) (rt (v := .bool _) rfl),?_⟩
 have hR : rd s.size (n + 1) 2 none ts = numR s.size 4 ts53 := by rw [hrd,fac,if_neg hc8,if_neg hc24,if_neg hc44,if_pos hc51,ht53]
 exact ⟨x55,b55,B55,bc55,o55,a55,code55,rfl,by rw [hR]; exact hp55,Ko (T' := [_,_,fr]) rfl _ hM⟩
 replace hc51 := odf hc51
 obtain rfl : ts = ts53 := by rw [hts53,if_neg hc51]
 obtain rfl : a = a53 := by rw [← hrs.pos,← hrs53.pos]
 refine Jg fun N20 hN20 => Jk (Jd (Ju (v := .pointer (some ⟨rg,0,none⟩)) U) U U U ?_)
 refine Mu 0 (fun v r G => ∃ a' ts',v = .bool (decide (hd ts = wOwners)) ∧ r = box rg (.cells #[.slice B (o).length bc,.string s,.int .i64 ((a' : Nat)),.int .i64 ((nextW s (a') : Nat)),.int .i64 code] 124) ∧ RS s a' ts' ∧ ts' = (if hd ts = wOwners then ts.tail else ts) ∧ G = []) (Kb (vs := [.pointer (some ⟨rg,0,none⟩),_]) Tryz.func94 U (by kernel_rfl) U) U (fun w fr1 hfr hM => (Uv _ w rg _ _ _ s _ fr1 hs _ ts hrs _ hM).mono fun _ _ ⟨a',ts',h1,h2,h3,h4⟩ => ⟨_,_,[],h1,⟨a',ts',U,U,h2,h3,U⟩,h4⟩) U U U ?_
 rintro _ _ _ ⟨a60,ts60,rfl,rfl,hrs60,hts60,rfl⟩
 refine Jd (Ji U) U U U (Ja (hN20 _ _ (gT [box rg _,rowl _ _ _ _ _ _,fr] U (Jb [(0,.pointer (some ⟨rg,0,none⟩)),(58,.bool _)] ⟨U,U,O⟩ fun σ => ?_))))
 refine Jt (b := _) U (fun hc58 => ?_) (fun hc58 => ?_)
 replace hc58 := odt hc58
 have ht60 : ts60 = ts.tail := by rw [hts60,if_pos hc58]
 have hpl := Wa (ts := ts) (by rw [hc58]; decide)
 have htl60 : ts60.length + 1 = ts.length := by rw [ht60]; exact hpl
 refine Jg fun N21 hN21 => Jk (Jd (Ju (v := .pointer (some ⟨rg,0,none⟩)) U) U U U (Jd (Jy U) U U U (Jd (Jc KM U) U U U (Jd (Kd (vs := [(0,_)]) (cells := #[_,.int .i64 0,.int .i64 0,.int .i64 0]) U (bd48_0 _)) U U U ?_))))
 refine Qk 0 1 (fun v r s1 G => ∃ B' bc',v = .int .i64 ((o).length : Nat) ∧ r = box rg (.cells #[.slice B' (o ++ [(⟨2,0,0,0⟩ : PN)]).length bc',.string s,.int .i64 ((a60 : Nat)),.int .i64 ((nextW s (a60) : Nat)),.int .i64 code] 124) ∧ s1 = rowl pnCells w0.heap.size 48 4 (.slice B' (o ++ [(⟨2,0,0,0⟩ : PN)]).length bc') (o ++ [(⟨2,0,0,0⟩ : PN)]) ∧ G = []) (Kb (vs := [.pointer _,.agg #[_,_,_,_]]) Tryz.func95 U (by kernel_rfl) U) U U U (fun w fr1 hfr hM => (Xa _ w rg _ _ s _ _ _ (o) fr1 hM (by omega) ((⟨2,0,0,0⟩ : PN))).mono fun _ _ ⟨B',bc',h1,h2⟩ => ⟨_,_,_,[],h1,⟨B',bc',U,U,U,U⟩,h2⟩) U U U ?_
 rintro _ _ _ _ ⟨B65,bc65,rfl,rfl,rfl,rfl⟩
 refine Jd (Jh U) U U U (Jd (Ji U) U U U (Ja (hN21 _ _ (gT [box rg _,rowl _ _ _ _ _ _,fr] U (Jb [(2,.int _ _),(3,.bool _)] ⟨U,U,O⟩ fun σ => ?_)))))
 refine Ke fun w1 hM => ?_
 refine ⟨_,res2 rfl (rt (v := .int _ _) rfl) (rt (v := .bool _) rfl),?_⟩
 have hR : rd s.size (n + 1) 2 none ts = .ok (.leaf 2 0) ts60 := by rw [hrd,fac,if_neg hc8,if_neg hc24,if_neg hc44,if_neg hc51,if_pos hc58,ht60]
 exact ⟨_,_,B65,bc65,_,_,_,rfl,pok_ok hR (by simp only [Tr.size]; omega) rfl hrs60,Ko (T' := [_,_,fr]) rfl _ hM⟩
 replace hc58 := odf hc58
 obtain rfl : ts = ts60 := by rw [hts60,if_neg hc58]
 obtain rfl : a = a60 := by rw [← hrs.pos,← hrs60.pos]
 refine Jg fun N22 hN22 => Jk (Jd (Ju (v := .pointer (some ⟨rg,0,none⟩)) U) U U U ?_)
 refine Mu 0 (fun v r G => ∃ a' ts',v = .bool (decide (hd ts = wTests)) ∧ r = box rg (.cells #[.slice B (o).length bc,.string s,.int .i64 ((a' : Nat)),.int .i64 ((nextW s (a') : Nat)),.int .i64 code] 124) ∧ RS s a' ts' ∧ ts' = (if hd ts = wTests then ts.tail else ts) ∧ G = []) (Kb (vs := [.pointer (some ⟨rg,0,none⟩),_]) Tryz.func94 U (by kernel_rfl) U) U (fun w fr1 hfr hM => (Uv _ w rg _ _ _ s _ fr1 hs _ ts hrs _ hM).mono fun _ _ ⟨a',ts',h1,h2,h3,h4⟩ => ⟨_,_,[],h1,⟨a',ts',U,U,h2,h3,U⟩,h4⟩) U U U ?_
 rintro _ _ _ ⟨a68,ts68,rfl,rfl,hrs68,hts68,rfl⟩
 refine Jd (Ji U) U U U (Ja (hN22 _ _ (gT [box rg _,rowl _ _ _ _ _ _,fr] U (Jb [(0,.pointer (some ⟨rg,0,none⟩)),(66,.bool _)] ⟨U,U,O⟩ fun σ => ?_))))
 refine Jt (b := _) U (fun hc66 => ?_) (fun hc66 => ?_)
 replace hc66 := odt hc66
 have ht68 : ts68 = ts.tail := by rw [hts68,if_pos hc66]
 have hpl := Wa (ts := ts) (by rw [hc66]; decide)
 have htl68 : ts68.length + 1 = ts.length := by rw [ht68]; exact hpl
 refine Jg fun N23 hN23 => Jk (Jd (Ju (v := .pointer (some ⟨rg,0,none⟩)) U) U U U (Jd (Jy U) U U U (Jd (Jc KM U) U U U (Jd (Kd (vs := [(0,_)]) (cells := #[_,.int .i64 0,.int .i64 0,.int .i64 0]) U (bd48_0 _)) U U U ?_))))
 refine Qk 0 1 (fun v r s1 G => ∃ B' bc',v = .int .i64 ((o).length : Nat) ∧ r = box rg (.cells #[.slice B' (o ++ [(⟨3,0,0,0⟩ : PN)]).length bc',.string s,.int .i64 ((a68 : Nat)),.int .i64 ((nextW s (a68) : Nat)),.int .i64 code] 124) ∧ s1 = rowl pnCells w0.heap.size 48 4 (.slice B' (o ++ [(⟨3,0,0,0⟩ : PN)]).length bc') (o ++ [(⟨3,0,0,0⟩ : PN)]) ∧ G = []) (Kb (vs := [.pointer _,.agg #[_,_,_,_]]) Tryz.func95 U (by kernel_rfl) U) U U U (fun w fr1 hfr hM => (Xa _ w rg _ _ s _ _ _ (o) fr1 hM (by omega) ((⟨3,0,0,0⟩ : PN))).mono fun _ _ ⟨B',bc',h1,h2⟩ => ⟨_,_,_,[],h1,⟨B',bc',U,U,U,U⟩,h2⟩) U U U ?_
 rintro _ _ _ _ ⟨B73,bc73,rfl,rfl,rfl,rfl⟩
 refine Jd (Jh U) U U U (Jd (Ji U) U U U (Ja (hN23 _ _ (gT [box rg _,rowl _ _ _ _ _ _,fr] U (Jb [(2,.int _ _),(3,.bool _)] ⟨U,U,O⟩ fun σ => ?_)))))
 refine Ke fun w1 hM => ?_
 refine ⟨_,res2 rfl (rt (v := .int _ _) rfl) (rt (v := .bool _) rfl),?_⟩
 have hR : rd s.size (n + 1) 2 none ts = .ok (.leaf 3 0) ts68 := by rw [hrd,fac,if_neg hc8,if_neg hc24,if_neg hc44,if_neg hc51,if_neg hc58,if_pos hc66,ht68]
 exact ⟨_,_,B73,bc73,_,_,_,rfl,pok_ok hR (by simp only [Tr.size]; omega) rfl hrs68,Ko (T' := [_,_,fr]) rfl _ hM⟩
 replace hc66 := odf hc66
 obtain rfl : ts = ts68 := by rw [hts68,if_neg hc66]
 obtain rfl : a = a68 := by rw [← hrs.pos,← hrs68.pos]
 refine Jw (hN2 _ _ (Jb [(0,.pointer (some ⟨rg,0,none⟩))] ⟨U,O⟩ fun σ => Jg fun N24 hN24 => Jk (Jd (Ju (v := .pointer (some ⟨rg,0,none⟩)) U) U U U ?_)))
 refine Mu 0 (fun v r G => v = .tuple #[.int .i64 0,.bool false] ∧ r = box rg (.cells #[.slice B o.length bc,.string s,.int .i64 ((a : Nat)),.int .i64 ((nextW s (a) : Nat)),.int .i64 1] 124) ∧ G = []) (Kb (vs := [.pointer (some ⟨rg,0,none⟩),_]) Tryz.func56 U (by kernel_rfl) U) U (fun w fr1 hfr hM => (Wh _ w rg _ _ _ s _ _ _ fr1 1 hM).mono fun _ _ ⟨h1,h2⟩ => ⟨_,_,[],h1,⟨U,U,U⟩,h2⟩) U U U ?_
 rintro _ _ _ ⟨rfl,rfl,rfl⟩
 refine Jd (Mg U U) U U U (Jd (Mi U U) U U U (Jd (Jh U) U U U (Jd (Ji U) U U U (Ja (hN24 _ _ (gT [box rg _,rowl _ _ _ _ _ _,fr] U (Jb [(2,.int _ _),(3,.bool _)] ⟨U,U,O⟩ fun σ => ?_)))))))
 refine Ke fun w1 hM => ?_
 refine ⟨_,res2 rfl (rt (v := .int _ _) rfl) (rt (v := .bool _) rfl),?_⟩
 have hR : rd s.size (n + 1) 2 none ts = .bad 1 a := by rw [hrd,fac,if_neg hc8,if_neg hc24,if_neg hc44,if_neg hc51,if_neg hc58,if_neg hc66,hrs.pos]
 exact ⟨_,_,B,bc,o,_,_,rfl,Xt hR (by omega),Ko (T' := [_,_,fr]) rfl _ hM⟩
end Go.Proofs.YtbkameioedmlkaaGreatDoor
namespace Go.Proofs.YtbkameioedmlkaaGreatDoor
open Go.RowKit Go.Cf
set_option maxRecDepth 10000
theorem bd48_0_2_3 (x1 : Int) (x2 : Int) (x3 : Int) : Tryz.prog.built 48 [(0, .int .i64 x1), (2, .int .i64 x2), (3, .int .i64 x3)] = some #[.int .i64 x1, .int .i64 0, .int .i64 x2, .int .i64 x3] := by kernel_rfl
set_option maxHeartbeats 16000000 in
theorem rdList_step (w0 : World) (s : ByteArray) (hs : s.size ≤ 200) (rg n : Nat) (hFac : FacH w0 s rg (n + 1)) (hLi : ∀ m, m ≤ n → ListH w0 s rg m) : ListH w0 s rg (n + 1) := by
 intro lv vi w B bc code o fr a ts hlv hvi hfu hrs hol hM0
 refine gcallsT Tryz.func55 U Tryz.ntmps55 (leb U) hM0 ?_
 refine Jb [(0,.pointer (some ⟨rg,0,none⟩)),(1,.int _ _)] ⟨U,U,O⟩ fun σ => Jg fun N1 hN1 => Jk (Jd (Jh U) U U U (Jd (Ji U) U U U (Ja (hN1 _ _ (Jb [(0,.pointer (some ⟨rg,0,none⟩)),(1,.int _ _)] ⟨U,U,O⟩ fun σ => Jg fun N2 hN2 => Jg fun N3 hN3 => Jk (Jd (Jf U) U U U (Jd (Mc U U) U U U (Ja ?_))))))))
 refine hN3 _ _ (Jb [(0,.pointer (some ⟨rg,0,none⟩)),(1,.int _ _),(12,.bool _)] ⟨U,U,U,O⟩ fun σ => ?_)
 refine Jt (b := _) U (fun hc12 => ?_) (fun hc12 => ?_)
 replace hc12 := odt hc12
 obtain rfl : lv = 2 := by omega
 refine Jg fun N4 hN4 => Jk (Jd (Ju (v := .pointer (some ⟨rg,0,none⟩)) U) U U U ?_)
 refine Qk 0 1 (fun v r s1 G => ∃ x b B' bc' o' a' code',v = .tuple #[.int .i64 x,.bool b] ∧ r = box rg (.cells #[.slice B' o'.length bc',.string s,.int .i64 ((a' : Nat)),.int .i64 ((nextW s (a') : Nat)),.int .i64 code'] 124) ∧ s1 = rowl pnCells w0.heap.size 48 4 (.slice B' (o').length bc') (o') ∧ G = [] ∧ POK s (rd s.size (n + 1) 2 none ts) (o) code x b o' a' code') (Kb (vs := [.pointer (some ⟨rg,0,none⟩)]) Tryz.func93 U (by kernel_rfl) U) U U U (fun w fr1 hfr hM => (hFac w _ _ _ o fr1 _ ts (by omega) hrs (by omega) hM).mono fun _ _ ⟨x,b,B',bc',o',a',code',h1,h2,h3⟩ => ⟨_,_,_,[],h1,⟨x,b,B',bc',o',a',code',U,U,U,U,h2⟩,h3⟩) U U U ?_
 rintro _ _ _ _ ⟨x14,b14,B14,bc14,o14,a14,code14,rfl,rfl,rfl,rfl,hp14⟩
 refine Jd (Mg U U) U U U (Jd (Mi U U) U U U (Jd (Jh U) U U U (Jd (Ji U) U U U (Ja (hN4 _ _ (gT [box rg _,rowl _ _ _ _ _ _,fr] U (Jb [(4,.int _ _),(5,.bool _)] ⟨U,U,O⟩ fun σ => ?_)))))))
 refine Ke fun w1 hM => ?_
 refine ⟨_,res2 rfl (rt (v := .int _ _) rfl) (rt (v := .bool _) rfl),?_⟩
 exact ⟨x14,b14,B14,bc14,o14,a14,code14,rfl,hp14,Ko (T' := [_,_,fr]) rfl _ hM⟩
 replace hc12 := odf hc12
 have hlv2 : lv < 2 := by omega
 have hR0 : (rd s.size (n + 1) lv none ts) = bindR (rd s.size n (lv + 1) none ts) fun t us => rd s.size n lv (some t) us := by rw [rd,if_neg (by omega)]
 refine Jw (hN2 _ _ (Jb [(0,.pointer (some ⟨rg,0,none⟩)),(1,.int _ _)] ⟨U,U,O⟩ fun σ => Jg fun N5 hN5 => Jk (Jd (Ul U) U U U (Jd (Jh U) U U U (Ja (hN5 _ _ (Jb [(0,.pointer (some ⟨rg,0,none⟩)),(1,.int _ _),(6,.string _),(7,.int _ _)] ⟨U,U,U,U,O⟩ fun σ => Jg fun N6 hN6 => Jb [(0,.pointer (some ⟨rg,0,none⟩)),(1,.int _ _),(6,.string _),(7,.int _ _)] ⟨U,U,U,U,O⟩ fun σ => ?_)))))))
 refine gcut3 (Lf := [(0,.pointer (some ⟨rg,0,none⟩)),(1,.int _ _)]) (G := Unit) (fun g => True) (fun g => [(6,.string (signL lv)),(7,.int .i64 (kindL lv))]) (fun g => []) ⟨U,U,O⟩ ?_ ?_
 refine Jg fun N7 hN7 => Jk (Jd (Jf U) U U U (Jd (Mc U U) U U U (Ja (hN7 _ _ (Jb [(0,.pointer (some ⟨rg,0,none⟩)),(1,.int _ _),(6,.string _),(7,.int _ _),(18,.bool _)] ⟨U,U,U,U,U,O⟩ fun σ => ?_)))))
 refine Jt (b := _) U (fun hc18 => ?_) (fun hc18 => ?_)
 replace hc18 := odt hc18
 refine Jk (Jd (Ul U) U U U (Jd (Jh U) U U U (Ja ?_)))
 refine Ki (()) (trivial) ⟨(congrArg Value.string (by first | (obtain rfl : lv = 1 := (by omega); rfl) | (obtain rfl : lv = 0 := (by omega); rfl))),(congrArg (Value.int .i64) (by first | (obtain rfl : lv = 1 := (by omega); rfl) | (obtain rfl : lv = 0 := (by omega); rfl))),trivial⟩ ⟨U,U,O⟩ ⟨_,U⟩
 replace hc18 := odf hc18
 refine Jw ?_
 refine Ki (()) (trivial) ⟨(congrArg Value.string (by first | (obtain rfl : lv = 1 := (by omega); rfl) | (obtain rfl : lv = 0 := (by omega); rfl))),(congrArg (Value.int .i64) (by first | (obtain rfl : lv = 1 := (by omega); rfl) | (obtain rfl : lv = 0 := (by omega); rfl))),trivial⟩ ⟨U,U,O⟩ ⟨_,U⟩
 intro g hcut σ
 refine hN6 _ _ (Jg fun N8 hN8 => Jk (Jd (Ju (v := .pointer (some ⟨rg,0,none⟩)) U) U U U (Jd (Jf U) U U U (Jd (Kr U U ⟨by omega,by omega⟩) U U U ?_))))
 refine Qk 0 1 (fun v r s1 G => ∃ x b B' bc' o' a' code',v = .tuple #[.int .i64 x,.bool b] ∧ r = box rg (.cells #[.slice B' o'.length bc',.string s,.int .i64 ((a' : Nat)),.int .i64 ((nextW s (a') : Nat)),.int .i64 code'] 124) ∧ s1 = rowl pnCells w0.heap.size 48 4 (.slice B' (o').length bc') (o') ∧ G = [] ∧ POK s (rd s.size n (lv + 1) none ts) (o) code x b o' a' code') (Kb (vs := [.pointer (some ⟨rg,0,none⟩),.int _ _]) Tryz.func55 U (by kernel_rfl) U) U U U (fun w fr1 hfr hM => (hLi n (Nat.le_refl _) (lv + 1) _ w _ _ _ o fr1 _ ts (by omega) (by omega) (by omega) hrs (by omega) hM).mono fun _ _ ⟨x,b,B',bc',o',a',code',h1,h2,h3⟩ => ⟨_,_,_,[],h1,⟨x,b,B',bc',o',a',code',U,U,U,U,h2⟩,h3⟩) U U U ?_
 rintro _ _ _ _ ⟨x23,b23,B23,bc23,o23,a23,code23,rfl,rfl,rfl,rfl,hp23⟩
 refine Jd (Ju (v := .tuple #[.int _ _,.bool _]) U) U U U (Jd (Mg U U) U U U (Jd (Mi U U) U U U (Jd (Jh U) U U U (Jd (Ji U) U U U (Ja (hN8 _ _ (gT [box rg _,rowl _ _ _ _ _ _,fr] U (Jb [(0,.pointer (some ⟨rg,0,none⟩)),(1,.int _ _),(6,.string _),(7,.int _ _),(8,.int _ _),(9,.bool _)] ⟨U,U,U,U,U,U,O⟩ fun σ => ?_))))))))
 refine Jg fun N9 hN9 => Kn ?_
 refine Mm [(8,.int _ _),(9,.bool _)] [(0,.pointer (some ⟨rg,0,none⟩)),(1,.int _ _),(6,.string _),(7,.int _ _)] ⟨U,U,O⟩ ⟨U,U,U,U,O⟩ fun σ => ?_
 refine Ml (G := Nat × Int × Bool × Option Addr × Nat × List PN × Nat × Int) (fun (m,x,b,B,bc,o1,a1,code1) => LI s lv n (rd s.size (n + 1) lv none ts) o code m x b o1 a1 code1) (fun (m,x,b,B,bc,o1,a1,code1) => m) (fun (m,x,b,B,bc,o1,a1,code1) => [(8,.int .i64 x),(9,.bool b)]) (fun (m,x,b,B,bc,o1,a1,code1) => [(0,box rg (.cells #[.slice B o1.length bc,.string s,.int .i64 ((a1 : Nat)),.int .i64 ((nextW s (a1) : Nat)),.int .i64 code1] 124)),(1,rowl pnCells w0.heap.size 48 4 (.slice B (o1).length bc) (o1))]) ((n,x23,b23,B23,bc23,o23,a23,code23)) ?h0 ⟨U,U,O⟩ ⟨U,U,U,U,O⟩ U ?round
 case h0 => exact li_start hR0 hlv2 (by omega) hol hp23
 case round =>
  rintro ⟨m,x,b,B,bc,o1,a1,code1⟩ hli σ
  replace hli : LI s lv n (rd s.size (n + 1) lv none ts) o code m x b o1 a1 code1 := hli
  refine gT [box rg _,rowl _ _ _ _ _ _,fr] U (Jg fun N10 hN10 => Jg fun N11 hN11 => Jk (Jd (Jn U) U U U (Jd (Jn U) U U U ?_)))
  refine Kh (want := true) U U U U U U (fun hg27 => ?_) (fun hg27 => ?_)
  have hg27d := hg27
  obtain ⟨t,us,rfl,rfl,hru,rfl,hRm,hfm,hlen⟩ := li_ok hli (by assumption)
  refine Jd (Je (Ju (v := .pointer (some ⟨rg,0,none⟩)) U)) U U U (Js U U U U hg27 (Jd (Je (Ku U)) U U U (Js U U U U hg27 ?_)))
  refine Mu 0 (fun v r G => ∃ a' ts',v = .bool (decide (hd us = signL lv)) ∧ r = box rg (.cells #[.slice B (o ++ post t o.length).length bc,.string s,.int .i64 ((a' : Nat)),.int .i64 ((nextW s (a') : Nat)),.int .i64 code] 124) ∧ RS s a' ts' ∧ ts' = (if hd us = signL lv then us.tail else us) ∧ G = []) (Kb (vs := [.pointer (some ⟨rg,0,none⟩),.string _]) Tryz.func94 U (by kernel_rfl) U) U (fun w fr1 hfr hM => (Uv _ w rg _ _ _ s _ fr1 hs _ us hru _ hM).mono fun _ _ ⟨a',ts',h1,h2,h3,h4⟩ => ⟨_,_,[],h1,⟨a',ts',U,U,h2,h3,U⟩,h4⟩) U U U ?_
  rintro _ _ _ ⟨a30,ts30,rfl,rfl,hrs30,hts30,rfl⟩
  refine Jd (Jo U hg27 U) U U U (Ja (hN11 _ _ (gT [box rg _,rowl _ _ _ _ _ _,fr] U (Jb [(0,.pointer (some ⟨rg,0,none⟩)),(1,.int _ _),(6,.string _),(7,.int _ _),(8,.int _ _),(9,.bool _),(31,.bool _)] ⟨U,U,U,U,U,U,U,O⟩ fun σ => ?_))))
  refine Jt (b := _) U (fun hc31 => ?_) (fun hc31 => ?_)
  have hsg : hd us = signL lv := by simpa using hc31
  obtain ⟨mm,rfl⟩ : ∃ k,m = k + 1 := ⟨m - 1,by omega⟩
  have ht30 : ts30 = us.tail := by rw [hts30,if_pos hsg]
  have hpl := Wa (ts := us) (by rw [hsg]; exact sign_ne lv)
  have htl30 : ts30.length + 1 = us.length := by rw [ht30]; exact hpl
  have hmn := hli.1
  have htp := t.pos
  have hRm1 : (rd s.size (n + 1) lv none ts) = bindR (rd s.size mm (lv + 1) none ts30) fun t2 ts' => rd s.size mm lv (some (.bin (kindL lv) t t2)) ts' := by rw [hRm,rd,if_pos hsg,ht30]
  refine Jw (hN10 _ _ (Jb [(0,.pointer (some ⟨rg,0,none⟩)),(1,.int _ _),(6,.string _),(7,.int _ _),(8,.int _ _)] ⟨U,U,U,U,U,O⟩ fun σ => Kn (Jg fun N12 hN12 => Jk (Jd (Jh U) U U U (Ja (hN12 _ _ (Jb [(0,.pointer (some ⟨rg,0,none⟩)),(1,.int _ _),(6,.string _),(7,.int _ _),(8,.int _ _)] ⟨U,U,U,U,U,O⟩ fun σ => Jg fun N13 hN13 => Jk (Jd (Ju (v := .pointer (some ⟨rg,0,none⟩)) U) U U U ?_))))))))
  refine Jd (Jf U) U U U (Jd (Kr U U ⟨by omega,by omega⟩) U U U ?_)
  refine Qk 0 1 (fun v r s1 G => ∃ x b B' bc' o' a' code',v = .tuple #[.int .i64 x,.bool b] ∧ r = box rg (.cells #[.slice B' o'.length bc',.string s,.int .i64 ((a' : Nat)),.int .i64 ((nextW s (a') : Nat)),.int .i64 code'] 124) ∧ s1 = rowl pnCells w0.heap.size 48 4 (.slice B' (o').length bc') (o') ∧ G = [] ∧ POK s (rd s.size mm (lv + 1) none ts30) (o ++ post t o.length) code x b o' a' code') (Kb (vs := [.pointer (some ⟨rg,0,none⟩),.int _ _]) Tryz.func55 U (by kernel_rfl) U) U U U (fun w fr1 hfr hM => (hLi mm (by omega) (lv + 1) _ w _ _ _ (o ++ post t o.length) fr1 _ ts30 (by omega) (by omega) (by omega) hrs30 (by rw [Wy]; omega) hM).mono fun _ _ ⟨x,b,B',bc',o',a',code',h1,h2,h3⟩ => ⟨_,_,_,[],h1,⟨x,b,B',bc',o',a',code',U,U,U,U,h2⟩,h3⟩) U U U ?_
  rintro _ _ _ _ ⟨x36,b36,B36,bc36,o36,a36,code36,rfl,rfl,rfl,rfl,hp36⟩
  refine Jd (Ju (v := .tuple #[.int _ _,.bool _]) U) U U U (Jd (Mg U U) U U U (Jd (Mi U U) U U U (Jd (Jh U) U U U (Jd (Ji U) U U U (Ja (hN13 _ _ (gT [box rg _,rowl _ _ _ _ _ _,fr] U (Jb [(0,.pointer (some ⟨rg,0,none⟩)),(1,.int _ _),(6,.string _),(7,.int _ _),(8,.int _ _),(9,.bool _),(10,.int _ _)] ⟨U,U,U,U,U,U,U,O⟩ fun σ => ?_))))))))
  refine Jg fun N14 hN14 => Jk (Jd (Jn U) U U U (Ja (hN14 _ _ (Jb [(0,.pointer (some ⟨rg,0,none⟩)),(1,.int _ _),(6,.string _),(7,.int _ _),(8,.int _ _),(9,.bool _),(10,.int _ _),(39,.bool _)] ⟨U,U,U,U,U,U,U,U,O⟩ fun σ => ?_))))
  refine Jt (b := _) U (fun hc39 => ?_) (fun hc39 => ?_)
  have hb36 : b36 = true := hc39
  obtain ⟨t36,us36,hR36,hx36,ho36,hrt36,hcd36⟩ := pok_yes hp36 (by first | assumption | simpa using hc39)
  have hsz36 : t36.size + us36.length ≤ ts30.length := (Zr s.size mm (lv + 1) none ts30 t36 us36 (fun _ h => by cases h) hR36).2
  subst hx36
  subst ho36
  obtain rfl : code = code36 := hcd36.symm
  have hR2 : (rd s.size (n + 1) lv none ts) = rd s.size mm lv (some (.bin (kindL lv) t t36)) us36 := by rw [hRm1,hR36]; rfl
  have htp36 := t36.pos
  have hal := Wy o t
  refine Jk (Jd (Ju (v := .pointer (some ⟨rg,0,none⟩)) U) U U U (Jd (Jy U) U U U (Jd (Jc KM U) U U U (Jd (Jf U) U U U (Jd (Jf U) U U U (Jd (Jf U) U U U (Jd (Kd (vs := [(0,.int _ _),(2,.int _ _),(3,.int _ _)]) (cells := #[_,.int .i64 0,_,_]) U (bd48_0_2_3 _ _ _)) U U U ?_)))))))
  refine Qk 0 1 (fun v r s1 G => ∃ B' bc',v = .int .i64 (((o ++ post t o.length) ++ post t36 (o ++ post t o.length).length).length : Nat) ∧ r = box rg (.cells #[.slice B' ((o ++ post t o.length) ++ post t36 (o ++ post t o.length).length ++ [(⟨kindL lv,0,((o.length + t.size : Nat) : Int) - 1,(((o ++ post t o.length).length + t36.size : Nat) : Int) - 1⟩ : PN)]).length bc',.string s,.int .i64 ((a36 : Nat)),.int .i64 ((nextW s (a36) : Nat)),.int .i64 code] 124) ∧ s1 = rowl pnCells w0.heap.size 48 4 (.slice B' ((o ++ post t o.length) ++ post t36 (o ++ post t o.length).length ++ [(⟨kindL lv,0,((o.length + t.size : Nat) : Int) - 1,(((o ++ post t o.length).length + t36.size : Nat) : Int) - 1⟩ : PN)]).length bc') ((o ++ post t o.length) ++ post t36 (o ++ post t o.length).length ++ [(⟨kindL lv,0,((o.length + t.size : Nat) : Int) - 1,(((o ++ post t o.length).length + t36.size : Nat) : Int) - 1⟩ : PN)]) ∧ G = []) (Kb (vs := [.pointer _,.agg #[_,_,_,_]]) Tryz.func95 U (by kernel_rfl) U) U U U (fun w fr1 hfr hM => (Xa _ w rg _ _ s _ _ _ ((o ++ post t o.length) ++ post t36 (o ++ post t o.length).length) fr1 hM (by rw [Wy,Wy]; omega) ((⟨kindL lv,0,((o.length + t.size : Nat) : Int) - 1,(((o ++ post t o.length).length + t36.size : Nat) : Int) - 1⟩ : PN))).mono fun _ _ ⟨B',bc',h1,h2⟩ => ⟨_,_,_,[],h1,⟨B',bc',U,U,U,U⟩,h2⟩) U U U ?_
  rintro _ _ _ _ ⟨B47,bc47,rfl,rfl,rfl,rfl⟩
  refine Jd (Jh U) U U U (Ja ?_)
  refine Kt ((mm,(((o ++ post t o.length) ++ post t36 (o ++ post t o.length).length).length : Nat),b36,B47,bc47,(o ++ post t o.length) ++ post t36 (o ++ post t o.length).length ++ [(⟨kindL lv,0,((o.length + t.size : Nat) : Int) - 1,(((o ++ post t o.length).length + t36.size : Nat) : Int) - 1⟩ : PN)],a36,code)) (by show mm < mm + 1; omega) (⟨by omega,.inr ⟨hb36,.bin (kindL lv) t t36,us36,by rw [Wy,Wy,Zo]; omega,post_bin_app o (kindL lv) t t36,hrt36,rfl,hR2,by omega,by rw [Zo]; omega⟩⟩) ⟨U,U,O⟩ ⟨U,U,U,U,O⟩ ⟨_,U⟩
  have hb36 : b36 = false := by simpa using hc39
  obtain ⟨hR36,ho36⟩ := pok_no hp36 hb36
  have hR2 : (rd s.size (n + 1) lv none ts) = .bad code36 a36 := by rw [hRm1,hR36]; rfl
  refine Jw ?_
  refine Kt ((mm,_,b36,B36,bc36,o36,a36,code36)) (by show mm < mm + 1; omega) (⟨by omega,.inl ⟨hb36,hR2,ho36⟩⟩) ⟨U,U,O⟩ ⟨U,U,U,U,O⟩ ⟨_,U⟩
  refine Mx ?_
  refine hN9 _ _ (Jb [(8,.int _ _),(9,.bool _)] ⟨U,U,O⟩ fun σ => Jg fun N15 hN15 => Jk (Jd (Jf U) U U U (Jd (Jn U) U U U (Jd (Jh U) U U U (Jd (Ji U) U U U (Ja (hN15 _ _ (Jb [(4,.int _ _),(5,.bool _)] ⟨U,U,O⟩ fun σ => ?_))))))))
  refine Ke fun w1 hM => ?_
  refine ⟨_,res2 rfl (rt (v := .int _ _) rfl) (rt (v := .bool _) rfl),?_⟩
  first
  | (have hne : ¬ hd us = signL lv := by simpa using hc31
     have hRx : (rd s.size (n + 1) lv none ts) = .ok t us := by
       obtain ⟨mm,rfl⟩ : ∃ k,m = k + 1 := ⟨m - 1,by omega⟩
       rw [hRm,rd,if_neg hne]
     obtain rfl : us = ts30 := by rw [hts30,if_neg hne]
     exact ⟨_,_,B,bc,_,_,_,rfl,pok_ok2 (by assumption) hRx rfl rfl hrs30,Ko (T' := [_,_,fr]) rfl _ hM⟩)
  | (obtain ⟨hRb,hob⟩ := li_bad hli (by assumption)
     exact ⟨_,_,_,_,_,_,_,rfl,pok_bad2 (by assumption) hRb hob,Ko (T' := [_,_,fr]) rfl _ hM⟩)
  have hg27d := hg27
  refine Jj U U U U hg27 U U (Jj U U U U hg27 U U (Jd (Jp U hg27 U) U U U (Ja (hN11 _ _ (Jb [(0,.pointer (some ⟨rg,0,none⟩)),(1,.int _ _),(6,.string _),(7,.int _ _),(8,.int _ _),(9,.bool _),(31,.bool _)] ⟨U,U,U,U,U,U,U,O⟩ fun σ => ?_)))))
  refine Jt (b := _) U (fun hc31 => ?_) (fun hc31 => ?_)
  cases hc31
  refine Mx ?_
  refine hN9 _ _ (Jb [(8,.int _ _),(9,.bool _)] ⟨U,U,O⟩ fun σ => Jg fun N16 hN16 => Jk (Jd (Jf U) U U U (Jd (Jn U) U U U (Jd (Jh U) U U U (Jd (Ji U) U U U (Ja (hN16 _ _ (Jb [(4,.int _ _),(5,.bool _)] ⟨U,U,O⟩ fun σ => ?_))))))))
  refine Ke fun w1 hM => ?_
  refine ⟨_,res2 rfl (rt (v := .int _ _) rfl) (rt (v := .bool _) rfl),?_⟩
  first
  | (have hne : ¬ hd us = signL lv := by simpa using hc31
     have hRx : (rd s.size (n + 1) lv none ts) = .ok t us := by
       obtain ⟨mm,rfl⟩ : ∃ k,m = k + 1 := ⟨m - 1,by omega⟩
       rw [hRm,rd,if_neg hne]
     obtain rfl : us = ts30 := by rw [hts30,if_neg hne]
     exact ⟨_,_,B,bc,_,_,_,rfl,pok_ok2 (by assumption) hRx rfl rfl hrs30,Ko (T' := [_,_,fr]) rfl _ hM⟩)
  | (obtain ⟨hRb,hob⟩ := li_bad hli (by assumption)
     exact ⟨_,_,_,_,_,_,_,rfl,pok_bad2 (by assumption) hRb hob,Ko (T' := [_,_,fr]) rfl _ hM⟩)
end Go.Proofs.YtbkameioedmlkaaGreatDoor
namespace Go.Proofs.YtbkameioedmlkaaGreatDoor
open Go.RowKit Go.Cf
theorem rd_both (w0 : World) (s : ByteArray) (hs : s.size ≤ 200) (hL : LaidP w0) (rg : Nat) : ∀ n, (∀ m, m ≤ n → ListH w0 s rg m) ∧ FacH w0 s rg n
  | 0 => ⟨fun m hm lv vi w B bc code o fr a ts hlv hvi hfu => by omega, fun w B bc code o fr a ts hfu => by omega⟩
  | n + 1 => by
    obtain ⟨h1, h2⟩ := rd_both w0 s hs hL rg n
    have h3 := rdFactor_step w0 s hs hL rg n h2 (h1 n (Nat.le_refl _))
    refine ⟨fun m hm => ?_, h3⟩
    rcases Nat.lt_or_ge n m with h | h
    · obtain rfl : m = n + 1 := by omega
      exact rdList_step w0 s hs rg n h3 h1
    · exact h1 m h
end Go.Proofs.YtbkameioedmlkaaGreatDoor
namespace Go.Proofs.YtbkameioedmlkaaGreatDoor
open Go.RowKit Go.Cf
set_option maxRecDepth 10000
theorem bd124_1 (x1 : ByteArray) : Tryz.prog.built 124 [(1, .string x1)] = some #[.slice none 0 0, .string x1, .int .i64 0, .int .i64 0, .int .i64 0] := by kernel_rfl
set_option maxHeartbeats 8000000 in
theorem polParse_any (w : World) (s : ByteArray) (hL : LaidP w) (hs0 : s.size ≤ 9223372036854775807) : Calls Tryz.prog 27 #[.string s] w fun e w' => ∃ pv, e = .returned (.tuple #[.agg #[pv], fv (parR s).1]) ∧ Below w.heap.size w w' ∧ NewL 4 pnCells (parR s).2 w.heap.size w' pv := by
 refine Kz Tryz.func27 U Tryz.ntmps27 (leb U) ?_
 refine Jb [(0,.string s)] ⟨U,O⟩ fun σ => Jg fun N1 hN1 => Jk ?_
 refine Ka (cs := #[.slice none 0 0]) Tryz.zeroValue43 U U (fun b2 hb2 => ?_)
 refine Ka (cs := #[.int .i64 0,.int .i64 0]) Tryz.zeroValue33 U U (fun b3 hb3 => ?_)
 refine Ja (hN1 _ _ (gT [box b2 _,box b3 _] U (Jb [(0,.string s),(2,.pointer _),(3,.pointer _)] ⟨U,U,U,O⟩ fun σ => Jg fun N2 hN2 => Jg fun N3 hN3 => Jk (Jd (Ju (v := .string s) U) U U U (Jd (Qt Tryz.underlying9 U) U U U (Jd (Mh U U) U U U (Ja (hN3 _ _ ?_))))))))
 refine Jb [(0,.string s),(2,.pointer _),(3,.pointer _),(9,.bool _)] ⟨U,U,U,U,O⟩ fun σ => ?_
 refine Jt (b := _) U (fun hc9 => ?_) (fun hc9 => ?_)
 replace hc9 := odt hc9
 have hP : parR s = (⟨2,-1⟩,[]) := by rw [parR,if_pos (by omega)]
 refine Jg fun N4 hN4 => Jk (Jd (Kd (vs := []) (cells := #[.slice none 0 0]) U bd43_) U U U (Jd (Kd (vs := [(0,_),(1,_)]) (cells := #[_,_]) U (Ma _ _)) U U U (Jr 0 (v := .agg #[_]) (cs' := #[_]) U U Tryz.sizeOf43 U U U U (leb U) U U (Jr 1 (v := .agg #[_,_]) (cs' := #[_,_]) U U Tryz.sizeOf33 U U U U (leb U) U U (Ja (hN4 _ _ (gT [box b2 _,box b3 _] U (Jb [(2,.pointer _),(3,.pointer _)] ⟨U,U,O⟩ fun σ => ?_))))))))
 refine Ke fun w1 hM => ?_
 refine ⟨_,res2 rfl (rc 0 (cs := [_]) hM rfl rfl Tryz.isAgg43 Tryz.sizeOf43 rfl) (rc 1 (cs := [_,_]) hM rfl rfl Tryz.isAgg33 Tryz.sizeOf33 rfl),?_⟩
 rw [hP]
 exact ⟨_,rfl,hM.low,Wd⟩
 replace hc9 := odf hc9
 have hs : s.size ≤ 200 := by omega
 refine Jw (hN2 _ _ (Jb [(0,.string s),(2,.pointer _),(3,.pointer _)] ⟨U,U,U,O⟩ fun σ => Jg fun N5 hN5 => Jk (Jd (Ju (v := .string s) U) U U U (Jd (Kd (vs := [(1,.string s)]) (cells := #[.slice none 0 0,_,.int .i64 0,.int .i64 0,.int .i64 0]) U (bd124_1 _)) U U U ?_))))
 refine Ka (cs := #[.slice none 0 0,.string .empty,.int .i64 0,.int .i64 0,.int .i64 0]) Tryz.zeroValue124 U U (fun b4 hb4 => ?_)
 refine Jr 2 (v := .agg #[_,_,_,_,_]) (cs' := #[_,_,_,_,_]) U U Tryz.sizeOf124 U U U U (leb U) U U (Ja (hN5 _ _ (gT [box b2 _,box b3 _,box b4 _] U (Jb [(0,.string s),(2,.pointer _),(3,.pointer _),(4,.pointer _)] ⟨U,U,U,U,O⟩ fun σ => Jg fun N6 hN6 => Jk ?_))))
 refine Mu 2 (fun v r G => v = .tuple #[] ∧ r = box b4 (.cells #[.slice none 0 0,.string s,.int .i64 ((skipW s 0 : Nat)),.int .i64 ((nextW s (skipW s 0) : Nat)),.int .i64 0] 124) ∧ G = []) (Kb (vs := [.pointer _]) Tryz.func54 U (by kernel_rfl) U) U (fun w fr1 hfr hM => (QW _ w b4 _ _ _ s _ fr1 hs _ _ 0 U (Nat.zero_le _) hM).mono fun _ _ ⟨h1,h2⟩ => ⟨_,_,[],h1,⟨U,U,U⟩,h2⟩) U U U ?_
 rintro _ _ _ ⟨rfl,rfl,rfl⟩
 refine Ja (hN6 _ _ (gT [box b2 _,box b3 _,box b4 _] U (Jb [(0,.string s),(2,.pointer _),(3,.pointer _),(4,.pointer _)] ⟨U,U,U,U,O⟩ fun σ => Jg fun N7 hN7 => Jk ?_)))
 refine gops_nilrow pnCells 48 4 ?_
 refine Qk 2 3 (fun v r s1 G => ∃ x b B' bc' o' a' code',v = .tuple #[.int .i64 x,.bool b] ∧ r = box b4 (.cells #[.slice B' o'.length bc',.string s,.int .i64 ((a' : Nat)),.int .i64 ((nextW s (a') : Nat)),.int .i64 code'] 124) ∧ s1 = rowl pnCells w.heap.size 48 4 (.slice B' (o').length bc') (o') ∧ G = [] ∧ POK s (rd s.size (fuelOf s) 0 none (tks s 0)) ([]) 0 x b o' a' code') (Kb (vs := [.pointer _,_]) Tryz.func55 U (by kernel_rfl) U) U U U (fun w fr1 hfr hM => ((rd_both _ s hs hL b4 (fuelOf s)).1 _ (Nat.le_refl _) 0 _ w _ _ _ [] fr1 _ (tks s 0) (by omega) U (by unfold fuelOf; omega) (RS.start s) (by have h9 := tks_len s _ 0 rfl; simp; omega) hM).mono fun _ _ ⟨x,b,B',bc',o',a',code',h1,h2,h3⟩ => ⟨_,_,_,[],h1,⟨x,b,B',bc',o',a',code',U,U,U,U,h2⟩,h3⟩) U U U ?_
 rintro _ _ _ _ ⟨x16,b16,B16,bc16,o16,a16,code16,rfl,rfl,rfl,rfl,hp16⟩
 refine Ky (fun w hM => Mz (hM.ok _ (List.mem_of_getElem? (i := 3) U))) ?_
 rintro ⟨A16,c16,hv16,hc16,hm16,hn16⟩
 simp only [Value.slice.injEq] at hv16
 obtain ⟨rfl,-,rfl⟩ := hv16
 refine Jd (Ju (v := .tuple #[.int _ _,.bool _]) U) U U U (Jd (Mg U U) U U U (Jd (Mi U U) U U U (Jd (Jh U) U U U (Jd (Ji U) U U U (Ja (hN7 _ _ (gT [box b2 _,box b3 _,box b4 _,rowl _ _ _ _ _ _] U (Jb [(0,.string s),(2,.pointer _),(3,.pointer _),(4,.pointer _),(6,.bool _)] ⟨U,U,U,U,U,O⟩ fun σ => ?_))))))))
 refine Jg fun N8 hN8 => Jb [(0,.string s),(2,.pointer _),(3,.pointer _),(4,.pointer _),(6,.bool _)] ⟨U,U,U,U,U,O⟩ fun σ => ?_
 refine gcut3 (Lf := [(2,.pointer _),(3,.pointer _),(4,.pointer _)]) (G := Bool × Int × Nat) (fun (b,cd,ac) => (b = false ∧ parR s = (⟨cd,ac⟩,[])) ∨ (b = true ∧ ∃ t : Tr,t.ok ∧ t.size ≤ 1000 ∧ o16 = post t 0 ∧ parR s = madeR t)) (fun (b,cd,ac) => [(6,.bool b)]) (fun (b,cd,ac) => [(2,box b4 (.cells #[.slice B16 o16.length bc16,.string s,.int .i64 ((ac : Nat)),.int .i64 ((nextW s (ac) : Nat)),.int .i64 cd] 124))]) ⟨U,U,U,O⟩ ?_ ?_
 refine Jg fun N9 hN9 => Jk (Jd (Jn U) U U U (Jd (Jn U) U U U ?_))
 refine Kh (want := true) U U U U U U (fun hg20 => ?_) (fun hg20 => ?_)
 have hg20d := hg20
 have hb16 : b16 = true := by assumption
 obtain ⟨t,us,hR,hx,ho,hrt,-⟩ := pok_yes hp16 hb16
 obtain ⟨hto,hts⟩ := Zr s.size _ _ none _ _ _ (fun _ h => by cases h) hR
 have htl := tks_len s _ 0 rfl
 simp only [Option.map,Option.getD] at hts
 refine Jd (Je (Jc Uc U)) U U U (Js U U U U hg20 (Jd (Je (Jq Tryz.isAgg3 U (Jm 2 U U))) U U U (Js U U U U hg20 (Jd (Je (Ju (v := .string s) U)) U U U (Js U U U U hg20 (Jd (Je (Qt Tryz.underlying9 U)) U U U (Js U U U U hg20 (Jd (Je (Me U U)) U U U ?_))))))))
 refine Jd (Jo U hg20 U) U U U (Ja (hN9 _ _ (Jb [(2,.pointer _),(3,.pointer _),(4,.pointer _),(6,.bool _),(26,.bool _)] ⟨U,U,U,U,U,O⟩ fun σ => ?_)))
 refine Jt (b := _) U (fun hc26 => ?_) (fun hc26 => ?_)
 replace hc26 := odt hc26
 have hus : us ≠ [] := fun h => hrt.nil.1 h (by omega)
 have hP : parR s = (⟨1,a16⟩,[]) := by
   rw [parR,if_neg (by omega),hR]
   show (if us = [] then madeR t else (⟨1,pos s.size us⟩,[])) = _
   rw [if_neg hus,hrt.pos]
 refine Jk ?_
 refine Mu 2 (fun v r G => v = .tuple #[.int .i64 0,.bool false] ∧ r = box b4 (.cells #[.slice B16 o16.length bc16,.string s,.int .i64 ((a16 : Nat)),.int .i64 ((nextW s (a16) : Nat)),.int .i64 1] 124) ∧ G = []) (Kb (vs := [.pointer _,_]) Tryz.func56 U (by kernel_rfl) U) U (fun w fr1 hfr hM => (Wh _ w b4 _ _ _ s _ _ _ fr1 1 hM).mono fun _ _ ⟨h1,h2⟩ => ⟨_,_,[],h1,⟨U,U,U⟩,h2⟩) U U U ?_
 rintro _ _ _ ⟨rfl,rfl,rfl⟩
 refine Jd (Ju (v := .tuple #[.int _ _,.bool _]) U) U U U (Jd (Mg U U) U U U (Jd (Mi U U) U U U (Jd (Ji U) U U U (Ja ?_))))
 refine Ki ((false,1,a16)) (.inl ⟨U,hP⟩) ⟨U,O⟩ ⟨U,U,U,O⟩ ⟨_,U⟩
 replace hc26 := odf hc26
 first
 | (have hP : parR s = madeR t := by
      rw [parR,if_neg (by omega),hR]
      show (if us = [] then madeR t else (⟨1,pos s.size us⟩,[])) = _
      rw [if_pos (hrt.nil.2 (by omega))])
 | skip
 refine Jw ?_
 refine Ki ((b16,code16,a16)) (.inr ⟨hb16,t,hto,by omega,ho,hP⟩) ⟨U,O⟩ ⟨U,U,U,O⟩ ⟨_,U⟩
 have hg20d := hg20
 have hb16 : b16 = false := by assumption
 obtain ⟨hR,-⟩ := pok_no hp16 hb16
 have hP : parR s = (⟨code16,a16⟩,[]) := by rw [parR,if_neg (by omega),hR]
 refine Jj U U U U hg20 U U (Jj U U U U hg20 U U (Jj U U U U hg20 U U (Jj U U U U hg20 U U (Jd (Jp U hg20 U) U U U (Ja (hN9 _ _ (Jb [(2,.pointer _),(3,.pointer _),(4,.pointer _),(6,.bool _),(26,.bool _)] ⟨U,U,U,U,U,O⟩ fun σ => ?_)))))))
 refine Jt (b := _) U (fun hc26 => ?_) (fun hc26 => ?_)
 cases hc26
 first
 | (have hP : parR s = madeR t := by
      rw [parR,if_neg (by omega),hR]
      show (if us = [] then madeR t else (⟨1,pos s.size us⟩,[])) = _
      rw [if_pos (hrt.nil.2 (by omega))])
 | skip
 refine Jw ?_
 refine Ki ((b16,code16,a16)) (.inl ⟨hb16,hP⟩) ⟨U,O⟩ ⟨U,U,U,O⟩ ⟨_,U⟩
 rintro ⟨b,cd,ac⟩ hcut σ
 refine hN8 _ _ (Jg fun N10 hN10 => Jg fun N11 hN11 => Jk (Jd (Jn U) U U U (Jd (Mp U) U U U (Ja (hN11 _ _ (gT [box b2 _,box b3 _,box b4 _,rowl _ _ _ _ _ _] U (Jb [(2,.pointer _),(3,.pointer _),(4,.pointer _),(32,.bool _)] ⟨U,U,U,U,O⟩ fun σ => ?_)))))))
 refine Jt (b := _) U (fun hc32 => ?_) (fun hc32 => ?_)
 replace hc32 := Ub hc32
 have hb : b = false := by simpa using hc32
 have hP : parR s = (⟨cd,ac⟩,[]) := by
   rcases hcut with h9 | h9
   · exact h9.2
   · rw [hb] at h9; exact absurd h9.1 (by decide)
 refine Jg fun N12 hN12 => ?_
 refine Qr [] [(0,room b2 43 1),(1,room b3 33 2)] (by kernel_rfl) ?_
 refine Jv 0 (TK := [room b2 43 1,room b3 33 2,box b4 _,rowl _ _ _ _ _ _]) U (by kernel_rfl) (by kernel_rfl) (by kernel_rfl) #[false,true,true,true,true,true,false,false] (by kernel_rfl) U (Kd (vs := []) (cells := #[.slice none 0 0]) U bd43_) U U U (Mb (Kj 0 U U) (Kj 1 U U)) (listed' := #[true,false,false,false,false,false,false,false]) U ?_
 refine Jv 1 (TK := [room b2 43 1,room b3 33 2,box b4 _,rowl _ _ _ _ _ _]) U (by kernel_rfl) (by kernel_rfl) (by kernel_rfl) #[true,false,false,true,true,false,true,false] (by kernel_rfl) U (Jc fa124_4 U) U U U (Mb (Kj 0 U U) (Kj 1 U U)) (listed' := #[true,true,false,false,false,false,false,false]) U ?_
 refine Jv 2 (TK := [room b2 43 1,room b3 33 2,box b4 _,rowl _ _ _ _ _ _]) U (by kernel_rfl) (by kernel_rfl) (by kernel_rfl) #[true,true,false,true,true,false,true,false] (by kernel_rfl) U (Jq Tryz.isAgg3 U (Jm 2 U U)) U U U (Mb (Kj 0 U U) (Kj 1 U U)) (listed' := #[true,true,true,false,false,false,false,false]) U ?_
 refine Jv 3 (TK := [room b2 43 1,room b3 33 2,box b4 _,rowl _ _ _ _ _ _]) U (by kernel_rfl) (by kernel_rfl) (by kernel_rfl) #[true,true,true,false,false,false,true,false] (by kernel_rfl) U (Jc Uc U) U U U (Mb (Kj 0 U U) (Kj 1 U U)) (listed' := #[true,true,true,true,false,false,false,false]) U ?_
 refine Jv 4 (TK := [room b2 43 1,room b3 33 2,box b4 _,rowl _ _ _ _ _ _]) U (by kernel_rfl) (by kernel_rfl) (by kernel_rfl) #[true,true,true,true,false,false,true,false] (by kernel_rfl) U (Jq Tryz.isAgg3 U (Jm 2 U U)) U U U (Mb (Kj 0 U U) (Kj 1 U U)) (listed' := #[true,true,true,true,true,false,false,false]) U ?_
 refine Jv 5 (TK := [room b2 43 1,room b3 33 2,box b4 _,rowl _ _ _ _ _ _]) U (by kernel_rfl) (by kernel_rfl) (by kernel_rfl) #[true,true,true,true,true,false,true,false] (by kernel_rfl) U (Kd (vs := [(0,.int _ _),(1,.int _ _)]) (cells := #[_,_]) U (Ma _ _)) U U U (Mb (Kj 0 U U) (Kj 1 U U)) (listed' := #[true,true,true,true,true,true,false,false]) U ?_
 refine Mr 6 (k' := 0) (listed' := #[true,true,true,true,true,true,true,false]) (by kernel_rfl) U U U ?_
 refine Jr 0 (v := .agg #[_]) (cs' := #[_]) U U Tryz.sizeOf43 U U U U (leb U) U U (Ja ?_)
 refine Mo (TK := [room b2 43 1,room b3 33 2,box b4 _,rowl _ _ _ _ _ _]) U (Mb (Kj 0 U U) (Kj 1 U U)) ?_
 refine Mr 7 (k' := 0) (listed' := #[true,true,true,true,true,true,true,true]) (by kernel_rfl) U U U ?_
 refine Jr 1 (v := .agg #[_,_]) (cs' := #[_,_]) U U Tryz.sizeOf33 U U U U (leb U) U U (Ja ?_)
 refine Mo (TK := [room b2 43 1,room b3 33 2,box b4 _,rowl _ _ _ _ _ _]) U (Mb (Kj 0 U U) (Kj 1 U U)) ?_
 refine Qd (by kernel_rfl) ?_
 refine hN12 _ _ (gT [box b2 _,box b3 _,box b4 _,rowl _ _ _ _ _ _] U (Jb [(2,.pointer _),(3,.pointer _)] ⟨U,U,O⟩ fun σ => ?_))
 refine Ke fun w1 hM => ?_
 refine ⟨_,res2 rfl (rc 0 (cs := [_]) hM rfl rfl Tryz.isAgg43 Tryz.sizeOf43 rfl) (rc 1 (cs := [_,_]) hM rfl rfl Tryz.isAgg33 Tryz.sizeOf33 rfl),?_⟩
 rw [hP]
 exact ⟨_,rfl,hM.low,Wd⟩
 replace hc32 := Ue hc32
 have hb : b = true := by simpa using hc32
 obtain ⟨t,hto,hts,rfl,hP⟩ : ∃ t : Tr,t.ok ∧ t.size ≤ 1000 ∧ o16 = post t 0 ∧ parR s = madeR t := by
   rcases hcut with h9 | h9
   · rw [hb] at h9; exact absurd h9.1 (by decide)
   · exact h9.2
 refine Jw (hN10 _ _ (Jb [(2,.pointer _),(3,.pointer _),(4,.pointer _)] ⟨U,U,U,O⟩ fun σ => Jg fun N13 hN13 => Jk (Jd (Jc KM U) U U U ?_)))
 refine Km (Kb (vs := [.pointer _]) Tryz.func57 U (by kernel_rfl) U) (fun w hM => polMade1_any w b4 _ _ t hto (by omega) (Jm 2 (off := 0) U U w hM) ((Qw (f := pnCells) (fun _ => U) (hM.ok _ (List.mem_of_getElem? (i := 3) U))).mono (Nat.zero_le _)) hc16 hm16) U U U ?_
 refine Jd (Mw (v := .agg #[_]) U U) U U U (Jd (Mw (v := .agg #[_,_]) U U) U U U (Jr 0 (v := .agg #[_]) (cs' := #[_]) U U Tryz.sizeOf43 U U U U (leb U) U U (Jr 1 (v := .agg #[_,_]) (cs' := #[_,_]) U U Tryz.sizeOf33 U U U U (leb U) U U (Ja (hN13 _ _ (gT [box b2 _,box b3 _,box b4 _,rowl _ _ _ _ _ _] U (Jb [(2,.pointer _),(3,.pointer _)] ⟨U,U,O⟩ fun σ => ?_)))))))
 refine Ke fun w1 hM => ?_
 refine ⟨_,res2 rfl (rc 0 (cs := [_]) hM rfl rfl Tryz.isAgg43 Tryz.sizeOf43 rfl) (rc 1 (cs := [_,_]) hM rfl rfl Tryz.isAgg33 Tryz.sizeOf33 rfl),?_⟩
 rw [hP]
 by_cases hB : 24 < t.size ∨ 12 < t.depth
 have hm : (madeR t).2 = [] := by rw [madeR,if_pos hB]
 refine ⟨_,rfl,hM.low,?_⟩
 rw [hm]
 simp only [if_pos hB]
 exact Wd
 have hm : (madeR t).2 = post t 0 := by rw [madeR,if_neg hB]
 refine ⟨_,rfl,hM.low,?_⟩
 rw [hm]
 simp only [if_neg hB]
 exact hM.newL 3 rfl (fun _ => rfl)
end Go.Proofs.YtbkameioedmlkaaGreatDoor
