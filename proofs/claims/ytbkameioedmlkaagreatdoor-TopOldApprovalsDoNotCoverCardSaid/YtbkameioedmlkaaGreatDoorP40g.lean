/-
  TopOldApprovalsDoNotCover: for all trees, patches and users the law returns true (the tied card).
-/
import Derived.Test.YtbkameioedmlkaaGreatDoorP40f
import Derived.Deep.DeepHandedRow
import Derived.LaidLaws
import Derived.Lib.LaidTab
import Derived.MakeChecks
import Derived.Stop.LaidErr
import Derived.Test.YtbkameioedmlkaaGreatDoorCards
import Derived.Test.YtbkameioedmlkaaGreatDoorProg
import Derived.Test.YtbkameioedmlkaaGreatDoorRows
import Derived.Test.YtbkameioedmlkaaGreatDoorTie
namespace Go.Proofs.YtbkameioedmlkaaGreatDoor
open Go.RowKit Go.Cf
set_option maxRecDepth 10000
theorem bd85_0 (x1 : ByteArray) : Tryz.prog.built 85 [(0, .string x1)] = some #[.string x1, .slice none 0 0] := by kernel_rfl
theorem bd85_0_1 (x1 : ByteArray) (x2 : Option Addr) (x2l x2c : Nat) : Tryz.prog.built 85 [(0, .string x1), (1, .slice x2 x2l x2c)] = some #[.string x1, .slice x2 x2l x2c] := by kernel_rfl
set_option maxHeartbeats 16000000 in
theorem put_any (w0 w : World) (bt fc : Nat) (FA : Option Addr) (fs : List FileC) (fr : Reg) (hM0 : Mem w0 [rowl fileCells w0.heap.size 85 2 (.slice FA fs.length fc) (fs), box bt (.cells #[.slice FA fs.length fc] 61), fr] w) (hfr : ∀ w1, fr.ok w1 → ∀ f ∈ fs, FileR w1 0 f) (v : VTree (fpl fs)) (path : ByteArray) (hnot : ∀ f ∈ fs, f.pl.path ≠ path) (LA : Option Addr) (lc : Nat) (L : List ByteArray) (hL : ∀ (w1 : World) (T1 : List Reg), Mem w0 T1 w1 → fr.ok w1 → Rdl w1 0 1 strCells LA L) (hLl : L.length ≤ 120) (hLn : LA = none → lc = 0) : Calls Tryz.prog 89 #[.pointer (some ⟨bt, 0, none⟩), .string path, .slice LA L.length lc] w fun e w' => ∃ v r' s' G, e = .returned v ∧ (∃ (k g c' : Nat) (NA : Option Addr) (nc : Nat), v = .tuple #[] ∧ k ≤ fs.length ∧ (∀ m (h : m < fs.length), m < k → ltS fs[m].pl.path path) ∧ (∀ m (h : m < fs.length), k ≤ m → ¬ ltS fs[m].pl.path path) ∧ (L.length ≤ nc ∧ nc ≤ maxLen ∧ (NA = none → nc = 0)) ∧ r' = rowl fileCells w0.heap.size 85 2 (.slice (some ⟨g, 0, none⟩) (fs.length + 1) c') (fs.take k ++ ⟨⟨path, L⟩, NA, nc⟩ :: fs.drop k) ∧ s' = box bt (.cells #[.slice (some ⟨g, 0, none⟩) (fs.length + 1) c'] 61) ∧ G = [rowl strCells w0.heap.size 9 1 (.slice NA L.length nc) (L)]) ∧ Mem w0 (r' :: s' :: fr :: G) w' := by
 have h24 : fs.length ≤ 24 := by have h9 := v.len; simpa using h9
 refine gcallsT Tryz.func89 U Tryz.ntmps89 (leb U) hM0 ?_
 refine Jb [(0,.pointer (some ⟨bt,0,none⟩)),(1,.string _),(2,.slice _ _ _)] ⟨U,U,U,O⟩ fun σ => ?_
 refine Un (fun w hM => Mz (hM.ok _ (List.mem_of_getElem? (i := 0) U))) ?_
 rintro ⟨A9,c9,hv9,hcc,hcm,hcn⟩
 simp only [Value.slice.injEq] at hv9
 obtain ⟨rfl,-,rfl⟩ := hv9
 refine Jg fun N1 hN1 => Jk (Jd (Ju (v := .pointer (some ⟨bt,0,none⟩)) U) U U U (Jd (Jy U) U U U (Jd (Jc Qm U) U U U (Jd (Jq Tryz.isAgg59 U (Jm 1 U U)) U U U (Jd (Ku U) U U U ?_)))))
 refine My (fun v T' => T' = [] ∧ ∃ (kk : Nat) (b : Bool),v = .tuple #[.int .i64 (kk : Int),.bool b] ∧ (b = true → ∃ h : kk < fs.length,fs[kk].pl.path = path) ∧ (b = false → kk ≤ fs.length ∧ (∀ m (h : m < fs.length),m < kk → ltS fs[m].pl.path path) ∧ (∀ m (h : m < fs.length),kk ≤ m → ¬ ltS fs[m].pl.path path))) (Kb (vs := [.slice _ _ _,.string _]) Tryz.func69 U (by kernel_rfl) U) (fun w hM => by have hr : TreeR w 0 FA fc fs := ⟨((Qw (f := fileCells) (fun _ => rfl) (hM.ok _ (List.mem_of_getElem? (i := 0) rfl))).mono (Nat.zero_le _)),hfr w (hM.ok _ (List.mem_of_getElem? (i := 2) rfl)),sb40 hcc hcm hcn (by omega)⟩; have hc := MW w FA fc fs hr v path; exact hc.mono fun _ _ ⟨k,b,h1,h2,h3,h4⟩ => ⟨_,[],h1,⟨rfl,k,b,rfl,h3,h4⟩,(Mem.start w).call h2⟩) U U U ?_
 rintro _ _ ⟨rfl,k,q1,rfl,hf1,hf2⟩
 refine Jd (Ju (v := .tuple #[.int _ _,.bool _]) U) U U U (Jd (Mg U U) U U U (Jd (Mi U U) U U U (Jd (Jh U) U U U (Jd (Ji U) U U U (Ja (hN1 _ _ (Jb [(0,.pointer (some ⟨bt,0,none⟩)),(1,.string _),(2,.slice _ _ _),(6,.int _ _),(7,.bool _)] ⟨U,U,U,U,U,O⟩ fun σ => Jg fun N2 hN2 => Jg fun N3 hN3 => Jk (Jd (Jn U) U U U ?_))))))))
 refine Jd (Mp U) U U U (Ja (hN3 _ _ (Jb [(0,.pointer (some ⟨bt,0,none⟩)),(1,.string _),(2,.slice _ _ _),(6,.int _ _),(18,.bool _)] ⟨U,U,U,U,U,O⟩ fun σ => ?_)))
 refine Jt (b := _) U (fun hc18 => ?_) (fun hc18 => ?_)
 obtain ⟨hk,hlo,hhi⟩ := hf2 (by simpa using hc18)
 refine Jk (Jd (Ju (v := .pointer (some ⟨bt,0,none⟩)) U) U U U (Jd (Ju (v := .pointer (some ⟨bt,0,none⟩)) U) U U U (Jd (Jy U) U U U (Jd (Jc Qm U) U U U (Jd (Jq Tryz.isAgg59 U (Jm 1 U U)) U U U (Jd (Jf U) U U U (Jd (Ku U) U U U (Jd (Kd (vs := [(0,.string _)]) (cells := #[_,.slice none 0 0]) U (bd85_0 _)) U U U ?_))))))))
 refine Qo (vs := [.agg #[_,_]]) (cells := #[_,_]) Tryz.underlying59 Tryz.sizeOf85 Tryz.zeroValue85 U (by decide) (by decide) U U U U (fun b27 hb27 => ?_)
 refine Qk 0 3 (fun v r s G => r = rowl fileCells w0.heap.size 85 2 (v) (fs.take k ++ (⟨⟨path,[]⟩,none,0⟩ : FileC) :: fs.drop k) ∧ s = box b27 (.cells #[.string path,.slice none 0 0] 85) ∧ G = []) (Kb (vs := [.slice _ _ _,.int _ _,.slice (some _) _ _]) Tryz.func113 U (by kernel_rfl) U) U U U (fun w fr1 hfr hM => (insertF_any w0 w FA fc k fs b27 (⟨⟨path,[]⟩,none,0⟩ : FileC) fr1 hM hk (by omega)).mono fun _ _ ⟨v,r',G,h1,⟨h2,h3⟩,h4⟩ => ⟨v,r',_,G,h1,⟨h2,U,h3⟩,h4⟩) U U U ?_
 rintro v28 _ _ _ ⟨rfl,rfl,rfl⟩
 have hlen := ins_len (l := fs) (k := k) (x := (⟨⟨path,[]⟩,none,0⟩ : FileC)) hk
 refine Ky (fun w hM => (by have h := Zt (hM.own 0 rfl) (by rw [hlen]; omega); rw [hlen] at h; exact h : ∃ g c,v28 = .slice (some ⟨g,0,none⟩) (fs.length + 1) c ∧ fs.length + 1 ≤ c ∧ c ≤ maxLen)) ?_
 rintro ⟨g28,c28,rfl,hc28,hm28⟩
 refine Jd (Jy U) U U U (Jd (Jc Qm U) U U U (Jr 1 (v := .slice (some ⟨g28,0,none⟩) _ c28) (cs' := #[_]) U U Tryz.sizeOf59 U U U U (leb U) U U (Ja (hN2 _ _ (gT [rowl _ _ _ _ _ _,box bt _,fr,box b27 _] U (Jb [(0,.pointer (some ⟨bt,0,none⟩)),(2,.slice _ _ _),(6,.int _ _)] ⟨U,U,U,O⟩ fun σ => ?_))))))
 refine Xv [9] (by kernel_rfl) ?_
 refine Jv 0 (TK := [rowl _ _ _ _ _ _,box bt _,fr,box b27 _]) U (by kernel_rfl) (by kernel_rfl) (by kernel_rfl) #[false,false,false,false,true,true,true,false,false,false] (by kernel_rfl) U (Ju (v := .pointer (some ⟨bt,0,none⟩)) U) U U U (Kc) (listed' := #[true,false,false,false,false,false,false,false,false,false]) U ?_
 refine Jv 1 (TK := [rowl _ _ _ _ _ _,box bt _,fr,box b27 _]) U (by kernel_rfl) (by kernel_rfl) (by kernel_rfl) #[true,false,false,false,true,true,true,false,false,false] (by kernel_rfl) U (Jy U) U U U (Kc) (listed' := #[true,true,false,false,false,false,false,false,false,false]) U ?_
 refine Jv 2 (TK := [rowl _ _ _ _ _ _,box bt _,fr,box b27 _]) U (by kernel_rfl) (by kernel_rfl) (by kernel_rfl) #[true,true,false,false,true,true,true,false,false,false] (by kernel_rfl) U (Jc Qm U) U U U (Kc) (listed' := #[true,true,true,false,false,false,false,false,false,false]) U ?_
 refine Jv 3 (TK := [rowl _ _ _ _ _ _,box bt _,fr,box b27 _]) U (by kernel_rfl) (by kernel_rfl) (by kernel_rfl) #[true,true,true,false,true,true,true,false,false,false] (by kernel_rfl) U (Jq Tryz.isAgg59 U (Jm 1 U U)) U U U (Kc) (listed' := #[true,true,true,true,false,false,false,false,false,false]) U ?_
 refine Jv 4 (TK := [rowl _ _ _ _ _ _,box bt _,fr,box b27 _]) U (by kernel_rfl) (by kernel_rfl) (by kernel_rfl) #[true,true,true,true,false,true,true,false,false,false] (by kernel_rfl) U (Jf U) U U U (Kc) (listed' := #[true,true,true,true,true,false,false,false,false,false]) U ?_
 refine Jv 5 (TK := [rowl _ _ _ _ _ _,box bt _,fr,box b27 _]) U (by kernel_rfl) (by kernel_rfl) (by kernel_rfl) #[true,true,true,true,true,false,false,false,false,false] (by kernel_rfl) U (Kl U) U U U (Kc) (listed' := #[true,true,true,true,true,true,false,false,false,false]) U ?_
 refine Mr 6 (k' := 0) (listed' := #[true,true,true,true,true,true,true,false,false,false]) (by kernel_rfl) U U U ?_
 refine My (fun v T' => ∃ lo,w0.heap.size ≤ lo ∧ T' = [rowl strCells lo 9 1 v L]) (Kb (vs := [.slice _ _ _]) Tryz.func29 U (by kernel_rfl) U) (fun w hM => (clone_any w LA lc L (hL w _ hM (hM.ok _ (List.mem_of_getElem? (i := 2) U))) (by omega) hLn).mono fun _ _ ⟨v,T1,h1,h2,h3⟩ => ⟨v,T1,h1,⟨_,hM.low.size,h2⟩,h3⟩) U U U ?_
 rintro v37 _ ⟨lo37,hlo37,rfl⟩
 refine Ky (fun w hM => Mz (hM.ok _ (List.mem_of_getElem? (i := 4) U))) ?_
 rintro ⟨A37,c37,rfl,hc37,hm37,hn37⟩
 refine Yk _ (Wg 4 U hlo37) ?_
 refine Ja ?_
 refine Mo (TK := [rowl _ _ _ _ _ _,box bt _,fr,box b27 _]) U (Ko (T' := [rowl _ _ _ _ _ _,box bt _,fr,box b27 _]) U) ?_
 refine Jv 7 (TK := [rowl _ _ _ _ _ _,box bt _,fr,box b27 _]) U (by kernel_rfl) (by kernel_rfl) (by kernel_rfl) #[true,true,true,true,true,true,true,false,false,false] (by kernel_rfl) U (Jz (m := k) Tryz.underlying59 Tryz.sizeOf85 U U (by omega) (by omega) (by omega)) U U U (Ko (T' := [rowl _ _ _ _ _ _,box bt _,fr,box b27 _]) U) (listed' := #[true,true,true,true,true,true,true,true,false,false]) U ?_
 refine Jv 8 (TK := [rowl _ _ _ _ _ _,box bt _,fr,box b27 _]) U (by kernel_rfl) (by kernel_rfl) (by kernel_rfl) #[true,true,true,true,true,true,true,true,false,false] (by kernel_rfl) U (Kv Zf U) U U U (Ko (T' := [rowl _ _ _ _ _ _,box bt _,fr,box b27 _]) U) (listed' := #[true,true,true,true,true,true,true,true,true,false]) U ?_
 refine Mr 9 (k' := 1) (listed' := #[true,true,true,true,true,true,true,true,true,true]) (by kernel_rfl) U U U ?_
 refine Mk 0 (f := fileCells) (l := fs.take k ++ (⟨⟨path,[]⟩,none,0⟩ : FileC) :: fs.drop k) (k := k) (o := 1) (v := .slice A37 _ c37) (a := (⟨⟨path,[]⟩,none,0⟩ : FileC)) (a' := ⟨⟨path,L⟩,A37,c37⟩) (fun _ => U) U U U Tryz.sizeOf22 U U U U hlen.symm (ins_get hk) (leb U) U U ?_
 refine Ja ?_
 refine Mo (TK := []) U (Qn) ?_
 refine Qd (by kernel_rfl) ?_
 intro w1 hM
 refine ⟨_,res0 rfl,?_⟩
 rw [ins_set hk] at hM
 exact ⟨_,_,_,_,rfl,⟨k,g28,c28,A37,c37,rfl,hk,hlo,hhi,⟨hc37,hm37,hn37⟩,rfl,rfl,rfl⟩,hM.sub (.cons_cons _ (.cons_cons _ (.cons_cons _ (.cons _ (.cons_cons _ .slnil)))))⟩
 obtain ⟨h8,h9⟩ := hf1 (by simpa using hc18); exact absurd h9 (hnot _ (List.getElem_mem h8))
set_option maxHeartbeats 16000000 in
theorem copyTree_any (w : World) (A : Option Addr) (c : Nat) (fs : List FileC) (hR : TreeR w 0 A c fs) (v : VTree (fpl fs)) : Calls Tryz.prog 52 #[.agg #[.slice A fs.length c]] w fun e w' => ∃ v T', e = .returned v ∧ (∃ (A' : Option Addr) (c' : Nat) (gs : List FileC) (gr : Reg), v = .agg #[.slice A' gs.length c'] ∧ fpl gs = fpl fs ∧ (∀ w1, gr.ok w1 → ∀ f ∈ gs, FileR w1 0 f) ∧ T' = [rowl fileCells w.heap.size 85 2 (.slice A' gs.length c') (gs), gr]) ∧ Mem w T' w' := by
 have hsl := hR.sb.len
 have hsm := hR.sb.max
 have hmx : maxLen = 9223372036854775807 := rfl
 have h24 : fs.length ≤ 24 := by have h9 := v.len; simpa using h9
 refine Kz Tryz.func52 U Tryz.ntmps52 (leb U) ?_
 refine Jb [(0,.agg #[_])] ⟨U,O⟩ fun σ => Jg fun N1 hN1 => Jk ?_
 refine Mt (v := .agg #[_]) (cs := #[_]) U U U (fun b1 hb1 => ?_)
 refine Ka (cs := #[.slice none 0 0]) Tryz.zeroValue61 U U (fun b2 hb2 => ?_)
 refine Ja (hN1 _ _ (gT [box b1 _,box b2 _] U (Jb [(1,.pointer _),(2,.pointer _)] ⟨U,U,O⟩ fun σ => Jg fun N2 hN2 => Jk ?_)))
 refine Ka (cs := #[.slice none 0 0]) Tryz.zeroValue61 U U (fun b3 hb3 => ?_)
 refine Ja (hN2 _ _ (gT [box b1 _,box b2 _,box b3 _] U (Jb [(1,.pointer _),(2,.pointer _),(3,.pointer _)] ⟨U,U,U,O⟩ fun σ => Jg fun N3 hN3 => Jg fun N4 hN4 => Jk (Jd (Jc Qm U) U U U (Jd (Jq Tryz.isAgg59 U (Jm 0 U U)) U U U (Jd (Ks Tryz.underlying59 U) U U U (Jd (Jf U) U U U (Ja ?_))))))))
 refine hN4 _ _ (Jb [(2,.pointer _),(3,.pointer _),(7,.slice _ _ _),(8,.int _ _),(9,.int _ _)] ⟨U,U,U,U,U,O⟩ fun σ => Kn ?_)
 refine Xw fileCells 85 2 ?_
 refine g_emp ?_
 refine Mm [(9,.int _ _)] [(2,.pointer _),(3,.pointer _),(7,.slice _ _ _),(8,.int _ _)] ⟨U,O⟩ ⟨U,U,U,U,O⟩ fun σ => ?_
 refine Ml (G := Nat × Option Addr × Nat × List FileC × Reg) (fun (k,Av,cv,gs,gr) => k ≤ fs.length ∧ gs.length = k ∧ fpl gs = (fpl fs).take k ∧ ∀ w1,gr.ok w1 → ∀ f ∈ gs,FileR w1 0 f) (fun (k,Av,cv,gs,gr) => fs.length - k) (fun (k,Av,cv,gs,gr) => [(9,.int .i64 (k : Int))]) (fun (k,Av,cv,gs,gr) => [(2,box b3 (.cells #[.slice Av gs.length cv] 61)),(3,rowl fileCells w.heap.size 85 2 (.slice Av gs.length cv) (gs)),(4,gr)]) ((0,none,0,[],emp)) ?h0 ⟨U,O⟩ ⟨U,U,U,U,O⟩ U ?round
 case h0 => exact ⟨Nat.zero_le _,rfl,by simp,fun _ _ _ h => (by cases h)⟩
 case round =>
  rintro ⟨k,Av,cv,gs,gr⟩ hφ σ
  obtain ⟨hk,hgl,hgs,hgr⟩ : k ≤ fs.length ∧ gs.length = k ∧ fpl gs = (fpl fs).take k ∧ ∀ w1,gr.ok w1 → ∀ f ∈ gs,FileR w1 0 f := hφ
  refine gT [box b1 _,box b2 _,box _ _,rowl _ _ _ _ _ _,gr] U (Jg fun N5 hN5 => Jk (Jd (Me U U) U U U (Ja (hN5 _ _ (Jb [(2,.pointer _),(3,.pointer _),(7,.slice _ _ _),(8,.int _ _),(9,.int _ _),(10,.bool _)] ⟨U,U,U,U,U,U,O⟩ fun σ => Jg fun N6 hN6 => ?_)))))
  refine Jt (b := _) U (fun hc10 => ?_) (fun hc10 => ?_)
  replace hc10 := odt hc10
  have hk1 : k < fs.length := by omega
  obtain ⟨ad,rfl,-,hca⟩ := hR.rd.at_ hk1
  have hRk := hR.each _ (List.getElem_mem hk1)
  have hl120 := Qu (v.lines _ (List.mem_map_of_mem (List.getElem_mem hk1)))
  refine Jw (hN6 _ _ (Jb [(2,.pointer _),(3,.pointer _),(7,.slice _ _ _),(8,.int _ _),(9,.int _ _)] ⟨U,U,U,U,U,O⟩ fun σ => Jg fun N7 hN7 => Kn (Jg fun N8 hN8 => Jk (Jd (Jz (m := k) Tryz.underlying59 Tryz.sizeOf85 U U (by omega) (by omega) (by omega)) U U U (Jd (Kk (cs := [_,_]) Tryz.isAgg85 Tryz.sizeOf85 U U (Mv hca)) U U U ?_)))))
  refine Ka (cs := #[.string .empty,.slice none 0 0]) Tryz.zeroValue85 U U (fun b5 hb5 => ?_)
  refine Jr 5 (v := .agg #[_,_]) (cs' := #[_,_]) U U Tryz.sizeOf85 U U U U (leb U) U U (Ja (hN8 _ _ (gT [box b1 _,box b2 _,box _ _,rowl _ _ _ _ _ _,gr,box b5 _] U (Jb [(2,.pointer _),(3,.pointer _),(5,.pointer _),(7,.slice _ _ _),(8,.int _ _),(9,.int _ _)] ⟨U,U,U,U,U,U,O⟩ fun σ => ?_))))
  refine Qr [11] [(3,emp)] (by kernel_rfl) ?_
  refine Jv 0 (TK := [box b1 _,box b2 _,box _ _,emp,gr,box b5 _]) U (by kernel_rfl) (by kernel_rfl) (by kernel_rfl) #[false,false,true,true,true,true,true,true,true,false,false,false] (by kernel_rfl) U (Jc Qm U) U U U (Kw 3 U) (listed' := #[true,false,false,false,false,false,false,false,false,false,false,false]) U ?_
  refine Jv 1 (TK := [box b1 _,box b2 _,box _ _,emp,gr,box b5 _]) U (by kernel_rfl) (by kernel_rfl) (by kernel_rfl) #[true,false,true,true,true,true,true,true,true,false,false,false] (by kernel_rfl) U (Jq Tryz.isAgg59 U (Jm 2 U U)) U U U (Kw 3 U) (listed' := #[true,true,false,false,false,false,false,false,false,false,false,false]) U ?_
  refine Jv 2 (TK := [box b1 _,box b2 _,box _ _,emp,gr,box b5 _]) U (by kernel_rfl) (by kernel_rfl) (by kernel_rfl) #[true,true,false,false,true,true,true,false,false,false,false,false] (by kernel_rfl) U (Jc Wr U) U U U (Kw 3 U) (listed' := #[true,true,true,false,false,false,false,false,false,false,false,false]) U ?_
  refine Jv 3 (TK := [box b1 _,box b2 _,box _ _,emp,gr,box b5 _]) U (by kernel_rfl) (by kernel_rfl) (by kernel_rfl) #[true,true,true,false,true,true,true,false,false,false,false,false] (by kernel_rfl) U (Jq Tryz.isAgg9 U (Jm 5 U U)) U U U (Kw 3 U) (listed' := #[true,true,true,true,false,false,false,false,false,false,false,false]) U ?_
  refine Jv 4 (TK := [box b1 _,box b2 _,box _ _,emp,gr,box b5 _]) U (by kernel_rfl) (by kernel_rfl) (by kernel_rfl) #[true,true,true,true,false,false,false,false,false,false,false,false] (by kernel_rfl) U (Jc Zf U) U U U (Kw 3 U) (listed' := #[true,true,true,true,true,false,false,false,false,false,false,false]) U ?_
  refine Jv 5 (TK := [box b1 _,box b2 _,box _ _,emp,gr,box b5 _]) U (by kernel_rfl) (by kernel_rfl) (by kernel_rfl) #[true,true,true,true,true,false,false,false,false,false,false,false] (by kernel_rfl) U (Jq Tryz.isAgg22 U (Jm 5 U U)) U U U (Kw 3 U) (listed' := #[true,true,true,true,true,true,false,false,false,false,false,false]) U ?_
  refine Mr 6 (k' := 0) (listed' := #[true,true,true,true,true,true,true,false,false,false,false,false]) (by kernel_rfl) U U U ?_
  refine My (fun v T' => ∃ lo,w.heap.size ≤ lo ∧ T' = [rowl strCells lo 9 1 v fs[k].pl.lines]) (Kb (vs := [.slice _ _ _]) Tryz.func29 U (by kernel_rfl) U) (fun w hM => (clone_any w fs[k].A fs[k].c fs[k].pl.lines (hRk.rd.base hM) (by omega) hRk.sb.nil).mono fun _ _ ⟨v,T1,h1,h2,h3⟩ => ⟨v,T1,h1,⟨_,hM.low.size,h2⟩,h3⟩) U U U ?_
  rintro v19 _ ⟨lo19,hlo19,rfl⟩
  refine Ky (fun w hM => Mz (hM.ok _ (List.mem_of_getElem? (i := 6) U))) ?_
  rintro ⟨A19,c19,rfl,hc19,hm19,hn19⟩
  refine Ja ?_
  refine Mo (TK := [box b1 _,box b2 _,box _ _,emp,gr,box b5 _]) U (Mb (Ko (T' := [box b1 _,box b2 _,box _ _,rowl _ _ _ _ _ _,gr,box b5 _]) U) (Kw 3 U)) ?_
  refine Jv 7 (TK := [box b1 _,box b2 _,box _ _,emp,gr,box b5 _]) U (by kernel_rfl) (by kernel_rfl) (by kernel_rfl) #[true,true,true,true,true,true,true,false,false,false,false,false] (by kernel_rfl) U (Kd (vs := [(0,.string _),(1,.slice A19 _ c19)]) (cells := #[_,_]) U (bd85_0_1 _ _ _ _)) U U U (Mb (Ko (T' := [box b1 _,box b2 _,box _ _,rowl _ _ _ _ _ _,gr,box b5 _]) U) (Kw 3 U)) (listed' := #[true,true,true,true,true,true,true,true,false,false,false,false]) U ?_
  refine Mr 8 (k' := 0) (listed' := #[true,true,true,true,true,true,true,true,true,false,false,false]) (by kernel_rfl) U U U ?_
  refine Qo (vs := [.agg #[_,_]]) (cells := #[_,_]) Tryz.underlying59 Tryz.sizeOf85 Tryz.zeroValue85 U (by decide) (by decide) U U U U (fun b21 hb21 => ?_)
  refine Ja ?_
  refine Mo (TK := [box b1 _,box b2 _,box _ _,emp,gr,box b5 _]) U (Mb (Ko (T' := [box b1 _,box b2 _,box _ _,rowl _ _ _ _ _ _,gr,box b5 _]) U) (Kw 3 U)) ?_
  refine Mr 9 (k' := 0) (listed' := #[true,true,true,true,true,true,true,true,true,true,false,false]) (by kernel_rfl) U U U ?_
  refine Qj 3 (f := fileCells) (l2 := [⟨fs[k].pl,A19,c19⟩]) Tryz.underlying59 el85 Uq (v := .slice _ _ _) U U U U (fun h => by cases h) (by simp [maxLen]; omega) (by simp; omega) (Wp 7 U U) U (fun v22 => ?_)
  refine Ky (fun w hM => Ug (hM.own 3 U)) ?_
  rintro ⟨A22,c22,rfl,hc22,hm22⟩
  refine Ja ?_
  refine Mo (TK := [box b1 _,box b2 _,box _ _,emp,gr,box b5 _]) U (Mb (Ko (T' := [box b1 _,box b2 _,box _ _,rowl _ _ _ _ _ _,gr,box b5 _]) U) (Kw 3 U)) ?_
  refine Jv 10 (TK := [box b1 _,box b2 _,box _ _,emp,gr,box b5 _]) U (by kernel_rfl) (by kernel_rfl) (by kernel_rfl) #[true,true,true,true,true,true,true,true,true,true,false,false] (by kernel_rfl) U (Jc Qm U) U U U (Mb (Ko (T' := [box b1 _,box b2 _,box _ _,rowl _ _ _ _ _ _,gr,box b5 _]) U) (Kw 3 U)) (listed' := #[true,true,true,true,true,true,true,true,true,true,true,false]) U ?_
  refine Mr 11 (k' := 1) (listed' := #[true,true,true,true,true,true,true,true,true,true,true,true]) (by kernel_rfl) U U U ?_
  refine Jr 2 (v := .slice A22 _ c22) (cs' := #[_]) U U Tryz.sizeOf59 U U U U (leb U) U U (Ja ?_)
  refine Mo (TK := []) U (Qn) ?_
  refine Qd (by kernel_rfl) ?_
  refine hN7 _ _ (gT [box b1 _,box b2 _,box _ _,rowl _ _ _ _ _ _,gr,box b5 _,rowl _ _ _ _ _ _,box b21 _] U (Jb [(2,.pointer _),(3,.pointer _),(7,.slice _ _ _),(8,.int _ _),(9,.int _ _)] ⟨U,U,U,U,U,O⟩ fun σ => Jk (Jd (Kr U U ⟨by omega,by omega⟩) U U U (Jd (Jf U) U U U (Ja ?_)))))
  refine fin_mem _ (Um 5 4 rfl) ?_
  refine Kt ((k + 1,A22,c22,gs ++ [⟨fs[k].pl,A19,c19⟩],both gr (all_ [_,_,_]))) (by show fs.length - (k + 1) < fs.length - k; omega) (⟨by show k + 1 ≤ _; omega,by simp [hgl],by rw [fpl,List.map_append,show List.map FileC.pl gs = _ from hgs,List.take_succ_eq_append_getElem (show k < (fpl fs).length by simpa using hk1),List.getElem_map]; rfl,fun w1 ho f hf => ?hr⟩) ⟨U,O⟩ ⟨U,U,U,U,O⟩ ⟨_,U⟩
  case hr =>
   rcases List.mem_append.1 hf with hf | hf
   exact hgr w1 ho.1 f hf
   obtain rfl := List.mem_singleton.1 hf
   exact ⟨(Qw (f := strCells) (fun _ => rfl) ho.2.2.1).mono (Nat.zero_le _),sb16 hc19 hm19 hn19 (by show fs[k].pl.lines.length ≤ 200; omega)⟩
  replace hc10 := odf hc10
  have hfe : fpl gs = fpl fs := hgs.trans (List.take_of_length_le (by simp; omega))
  refine Mx ?_
  refine hN3 _ _ (Jb [(2,.pointer _),(3,.pointer _)] ⟨U,U,O⟩ fun σ => Jg fun N9 hN9 => Jk (Jd (Kk (cs := [_]) Tryz.isAgg61 Tryz.sizeOf61 U U (Kf 2 U)) U U U (Jr 1 (v := .agg #[_]) (cs' := #[_]) U U Tryz.sizeOf61 U U U U (leb U) U U (Ja (hN9 _ _ (gT [box b1 _,box b2 _,box _ _,rowl _ _ _ _ _ _,gr] U (Jb [(2,.pointer _)] ⟨U,O⟩ fun σ => ?_)))))))
  refine Ke fun w1 hM => ?_
  refine ⟨_,res1 rfl (rc 1 (cs := [_]) hM rfl rfl Tryz.isAgg61 Tryz.sizeOf61 rfl),?_⟩
  exact ⟨_,_,rfl,⟨Av,cv,gs,gr,rfl,hfe,hgr,rfl⟩,hM.dropTo 3 rfl⟩
end Go.Proofs.YtbkameioedmlkaaGreatDoor
namespace Go.Proofs.YtbkameioedmlkaaGreatDoor
open Go.RowKit Go.Cf
set_option maxRecDepth 10000
set_option maxHeartbeats 32000000 in
theorem make1_any (w0 w : World) (x : ChgC) (hx : ChgR w0 0 x) (hco : COk x) (bt fc : Nat) (FA : Option Addr) (fs : List FileC) (fr : Reg) (hM0 : Mem w0 [rowl fileCells w0.heap.size 85 2 (.slice FA fs.length fc) (fs), box bt (.cells #[.slice FA fs.length fc] 61), fr] w) (hFR : ∀ w1, fr.ok w1 → ∀ f ∈ fs, FileR w1 0 f) (hOk : TOk (fpl fs)) : Calls Tryz.prog 53 #[.agg #[.int .i64 x.kind, .string x.path, .string x.dest, .slice x.LA x.lines.length x.lc, .slice x.PA x.hs.length x.pc], .pointer (some ⟨bt, 0, none⟩)] w fun e w' => ∃ v r' s' G, e = .returned v ∧ (∃ (code : Int) (FA' : Option Addr) (fc' n : Nat) (fs' : List FileC) (g1 : Reg), v = .int .i64 code ∧ n = fs'.length ∧ TOk (fpl fs') ∧ (∀ f ∈ fs', f ∈ fs ∨ ∀ w1, g1.ok w1 → FileR w1 0 f) ∧ r' = rowl fileCells w0.heap.size 85 2 (.slice FA' n fc') (fs') ∧ s' = box bt (.cells #[.slice FA' n fc'] 61) ∧ G = [g1]) ∧ Mem w0 (r' :: s' :: fr :: G) w' := by
 have v := hOk.v
 have hl24 : (fpl fs).length ≤ 24 := v.len
 have h24 : fs.length ≤ 24 := by have h9 := v.len; simpa using h9
 refine gcallsT Tryz.func53 U Tryz.ntmps53 (leb U) hM0 ?_
 refine Jb [(0,.agg #[_,_,_,_,_]),(1,.pointer (some ⟨bt,0,none⟩))] ⟨U,U,O⟩ fun σ => ?_
 refine Un (fun w hM => Mz (hM.ok _ (List.mem_of_getElem? (i := 0) U))) ?_
 rintro ⟨A9,c9,hv9,hcc,hcm,hcn⟩
 simp only [Value.slice.injEq] at hv9
 obtain ⟨rfl,-,rfl⟩ := hv9
 refine Jg fun N1 hN1 => Jk ?_
 refine Mt (v := .agg #[_,_,_,_,_]) (cs := #[_,_,_,_,_]) U U U (fun b2 hb2 => ?_)
 refine Jd (Jh U) U U U (Ja (hN1 _ _ (gT [rowl _ _ _ _ _ _,box bt _,fr,box b2 _] U (Jb [(1,.pointer (some ⟨bt,0,none⟩)),(2,.pointer _)] ⟨U,U,O⟩ fun σ => Jg fun N2 hN2 => ?_))))
 refine Xv [] (by kernel_rfl) ?_
 refine Jv 0 (TK := [rowl _ _ _ _ _ _,box bt _,fr,box b2 _]) U (by kernel_rfl) (by kernel_rfl) (by kernel_rfl) #[false,false,false,false,true,true,false,false,false,false,false,false] (by kernel_rfl) U (Ju (v := .pointer (some ⟨bt,0,none⟩)) U) U U U (Kc) (listed' := #[true,false,false,false,false,false,false,false,false,false,false,false]) U ?_
 refine Jv 1 (TK := [rowl _ _ _ _ _ _,box bt _,fr,box b2 _]) U (by kernel_rfl) (by kernel_rfl) (by kernel_rfl) #[true,false,false,false,true,true,false,false,false,false,false,false] (by kernel_rfl) U (Jy U) U U U (Kc) (listed' := #[true,true,false,false,false,false,false,false,false,false,false,false]) U ?_
 refine Jv 2 (TK := [rowl _ _ _ _ _ _,box bt _,fr,box b2 _]) U (by kernel_rfl) (by kernel_rfl) (by kernel_rfl) #[true,true,false,false,true,true,false,false,false,false,false,false] (by kernel_rfl) U (Jc Qm U) U U U (Kc) (listed' := #[true,true,true,false,false,false,false,false,false,false,false,false]) U ?_
 refine Jv 3 (TK := [rowl _ _ _ _ _ _,box bt _,fr,box b2 _]) U (by kernel_rfl) (by kernel_rfl) (by kernel_rfl) #[true,true,true,false,true,true,false,false,false,false,false,false] (by kernel_rfl) U (Jq Tryz.isAgg59 U (Jm 1 U U)) U U U (Kc) (listed' := #[true,true,true,true,false,false,false,false,false,false,false,false]) U ?_
 refine Jv 4 (TK := [rowl _ _ _ _ _ _,box bt _,fr,box b2 _]) U (by kernel_rfl) (by kernel_rfl) (by kernel_rfl) #[true,true,true,true,false,false,false,false,false,false,false,false] (by kernel_rfl) U (Jc Xy U) U U U (Kc) (listed' := #[true,true,true,true,true,false,false,false,false,false,false,false]) U ?_
 refine Jv 5 (TK := [rowl _ _ _ _ _ _,box bt _,fr,box b2 _]) U (by kernel_rfl) (by kernel_rfl) (by kernel_rfl) #[true,true,true,true,true,false,false,false,false,false,false,false] (by kernel_rfl) U (Jq Tryz.isAgg9 U (Jm 3 U U)) U U U (Kc) (listed' := #[true,true,true,true,true,true,false,false,false,false,false,false]) U ?_
 refine Mr 6 (k' := 0) (listed' := #[true,true,true,true,true,true,true,false,false,false,false,false]) (by kernel_rfl) U U U ?_
 refine My (fun v T' => T' = [] ∧ ∃ (kk : Nat) (b : Bool),v = .tuple #[.int .i64 (kk : Int),.bool b] ∧ (b = true → ∃ h : kk < fs.length,fs[kk].pl.path = x.path) ∧ (b = false → kk ≤ fs.length ∧ (∀ m (h : m < fs.length),m < kk → ltS fs[m].pl.path x.path) ∧ (∀ m (h : m < fs.length),kk ≤ m → ¬ ltS fs[m].pl.path x.path))) (Kb (vs := [.slice _ _ _,.string _]) Tryz.func69 U (by kernel_rfl) U) (fun w hM => by have hr : TreeR w 0 FA fc fs := ⟨((Qw (f := fileCells) (fun _ => rfl) (hM.ok _ (List.mem_of_getElem? (i := 0) rfl))).mono (Nat.zero_le _)),hFR w (hM.ok _ (List.mem_of_getElem? (i := 2) rfl)),sb40 hcc hcm hcn (by omega)⟩; have hc := MW w FA fc fs hr v x.path; exact hc.mono fun _ _ ⟨k,b,h1,h2,h3,h4⟩ => ⟨_,[],h1,⟨rfl,k,b,rfl,h3,h4⟩,(Mem.start w).call h2⟩) U U U ?_
 rintro _ _ ⟨rfl,k,q1,rfl,hf1,hf2⟩
 refine Ja ?_
 refine Mo (TK := [rowl _ _ _ _ _ _,box bt _,fr,box b2 _]) U (Kc) ?_
 refine Jv 7 (TK := [rowl _ _ _ _ _ _,box bt _,fr,box b2 _]) U (by kernel_rfl) (by kernel_rfl) (by kernel_rfl) #[true,true,true,true,true,true,true,false,false,false,false,false] (by kernel_rfl) U (Ju (v := .tuple #[.int _ _,.bool _]) U) U U U (Kc) (listed' := #[true,true,true,true,true,true,true,true,false,false,false,false]) U ?_
 refine Jv 8 (TK := [rowl _ _ _ _ _ _,box bt _,fr,box b2 _]) U (by kernel_rfl) (by kernel_rfl) (by kernel_rfl) #[true,true,true,true,true,true,true,true,false,true,false,false] (by kernel_rfl) U (Mg U U) U U U (Kc) (listed' := #[true,true,true,true,true,true,true,true,true,false,false,false]) U ?_
 refine Jv 9 (TK := [rowl _ _ _ _ _ _,box bt _,fr,box b2 _]) U (by kernel_rfl) (by kernel_rfl) (by kernel_rfl) #[true,true,true,true,true,true,true,true,true,false,true,false] (by kernel_rfl) U (Mi U U) U U U (Kc) (listed' := #[true,true,true,true,true,true,true,true,true,true,false,false]) U ?_
 refine Jv 10 (TK := [rowl _ _ _ _ _ _,box bt _,fr,box b2 _]) U (by kernel_rfl) (by kernel_rfl) (by kernel_rfl) #[true,true,true,true,true,true,true,true,true,true,false,false] (by kernel_rfl) U (Jh U) U U U (Kc) (listed' := #[true,true,true,true,true,true,true,true,true,true,true,false]) U ?_
 refine Jv 11 (TK := [rowl _ _ _ _ _ _,box bt _,fr,box b2 _]) U (by kernel_rfl) (by kernel_rfl) (by kernel_rfl) #[true,true,true,true,true,true,true,true,true,true,true,false] (by kernel_rfl) U (Ji U) U U U (Kc) (listed' := #[true,true,true,true,true,true,true,true,true,true,true,true]) U ?_
 refine Qd (by kernel_rfl) ?_
 refine hN2 _ _ (Jb [(1,.pointer (some ⟨bt,0,none⟩)),(2,.pointer _),(5,.int _ _),(6,.bool _)] ⟨U,U,U,U,O⟩ fun σ => Jg fun N3 hN3 => Kn (Jg fun N4 hN4 => Jk (Jd (Jc KQ U) U U U (Jd (Jq Tryz.isAgg3 U (Jm 3 U U)) U U U (Jd (Mc U U) U U U (Jd (Ji U) U U U (Ja (hN4 _ _ ?_))))))))
 refine Jb [(1,.pointer (some ⟨bt,0,none⟩)),(2,.pointer _),(5,.int _ _),(6,.bool _),(20,.bool _)] ⟨U,U,U,U,U,O⟩ fun σ => ?_
 refine Jt (b := _) U (fun hc20 => ?_) (fun hc20 => ?_)
 replace hc20 := odt hc20
 refine Jg fun N5 hN5 => Jg fun N6 hN6 => ?_
 refine Qx (by kernel_rfl) (by kernel_rfl) ?_
 refine gq (Ju (v := .pointer (some ⟨bt,0,none⟩)) U) U U U (gq (Jy U) U U U (gq (Jc Qm U) U U U (gq (Jq Tryz.isAgg59 U (Jm 1 U U)) U U U (gq (Jc Xy U) U U U (gq (Jq Tryz.isAgg9 U (Jm 3 U U)) U U U ?_)))))
 refine Ww (Kb (vs := [.slice _ _ _,.string _,_]) Tryz.func83 U (by kernel_rfl) U) (fun w hM => by have hc := KZ w FA _ fc fs ((Qw (f := fileCells) (fun _ => rfl) (hM.ok _ (List.mem_of_getElem? (i := 0) rfl))).mono (Nat.zero_le _)) rfl (by omega) x.path (-1) (Nat.le_trans (Qi hco.path) (by decide)) (fun f hf => Nat.le_trans (Qi (v.ok _ (List.mem_map_of_mem hf))) (by decide)); exact hc) U U U ?_
 refine Mn ?_
 refine hN6 _ _ (Jb [(1,.pointer (some ⟨bt,0,none⟩)),(2,.pointer _),(30,.bool _)] ⟨U,U,U,O⟩ fun σ => ?_)
 refine Jt (b := _) U (fun hc30 => ?_) (fun hc30 => ?_)
 refine Jg fun N7 hN7 => Jk (Jd (Jh U) U U U (Ja (hN7 _ _ (Jb [(4,.int _ _)] ⟨U,O⟩ fun σ => ?_))))
 refine Ke fun w1 hM => ?_
 refine ⟨_,res1 rfl (rt (v := .int _ _) rfl),?_⟩
 have h9 := Um 4 3 rfl _ hM
 exact ⟨_,_,_,_,rfl,⟨_,_,fc,_,fs,_,rfl,rfl,hOk,fun f hf => .inl hf,rfl,rfl,rfl⟩,h9⟩
 have hun := clash_c hc30
 refine Jw (hN5 _ _ (Jb [(1,.pointer (some ⟨bt,0,none⟩)),(2,.pointer _)] ⟨U,U,O⟩ fun σ => Jg fun N8 hN8 => Jg fun N9 hN9 => Jk (Jd (Ju (v := .pointer (some ⟨bt,0,none⟩)) U) U U U (Jd (Jy U) U U U (Jd (Jc Qm U) U U U (Jd (Jq Tryz.isAgg59 U (Jm 1 U U)) U U U (Jd (Ks Tryz.underlying59 U) U U U (Jd (Wj U U) U U U ?_))))))))
 refine Ja (hN9 _ _ (Jb [(1,.pointer (some ⟨bt,0,none⟩)),(2,.pointer _),(36,.bool _)] ⟨U,U,U,O⟩ fun σ => ?_))
 refine Jt (b := _) U (fun hc36 => ?_) (fun hc36 => ?_)
 replace hc36 := odt hc36
 refine Jg fun N10 hN10 => Jk (Jd (Jh U) U U U (Ja (hN10 _ _ (Jb [(4,.int _ _)] ⟨U,O⟩ fun σ => ?_))))
 refine Ke fun w1 hM => ?_
 refine ⟨_,res1 rfl (rt (v := .int _ _) rfl),?_⟩
 have h9 := Um 4 3 rfl _ hM
 exact ⟨_,_,_,_,rfl,⟨_,_,fc,_,fs,_,rfl,rfl,hOk,fun f hf => .inl hf,rfl,rfl,rfl⟩,h9⟩
 replace hc36 := odf hc36
 have hl23 : fs.length < 24 := by omega
 refine Jw (hN8 _ _ (Jb [(1,.pointer (some ⟨bt,0,none⟩)),(2,.pointer _)] ⟨U,U,O⟩ fun σ => Jg fun N11 hN11 => Jk (Jd (Ju (v := .pointer (some ⟨bt,0,none⟩)) U) U U U (Jd (Jc Xy U) U U U (Jd (Jq Tryz.isAgg9 U (Jm 3 U U)) U U U (Jd (Jc Wt U) U U U (Jd (Jq Tryz.isAgg22 U (Jm 3 U U)) U U U ?_)))))))
 refine Qk 0 1 (fun u r s G => ∃ (j g c' : Nat) (NA : Option Addr) (nc : Nat),u = .tuple #[] ∧ j ≤ (fs).length ∧ (∀ m (h : m < (fs).length),m < j → ltS (fs)[m].pl.path x.path) ∧ (∀ m (h : m < (fs).length),j ≤ m → ¬ ltS (fs)[m].pl.path x.path) ∧ ((x.lines).length ≤ nc ∧ nc ≤ maxLen ∧ (NA = none → nc = 0)) ∧ r = rowl fileCells w0.heap.size 85 2 (.slice (some ⟨g,0,none⟩) ((fs).length + 1) c') ((fs).take j ++ ⟨⟨x.path,x.lines⟩,NA,nc⟩ :: (fs).drop j) ∧ s = box bt (.cells #[.slice (some ⟨g,0,none⟩) ((fs).length + 1) c'] 61) ∧ G = [rowl strCells w0.heap.size 9 1 (.slice NA (x.lines).length nc) (x.lines)]) (Kb (vs := [.pointer (some ⟨bt,0,none⟩),.string _,.slice _ _ _]) Tryz.func89 U (by kernel_rfl) U) U U U (fun w fr1 hfr hM => put_any w0 w bt fc FA (fs) fr1 hM (fun w1 ho f hf => hFR w1 (hfr 2 _ U (by decide) (by decide) w1 ho) f (hf)) v x.path (un_ne hun) x.LA x.lc (x.lines) (fun w1 T1 hM1 _ => hx.rd.base hM1) (Qu hco.lines) hx.sb.nil) U U U ?_
 rintro _ _ _ _ ⟨j,gP,cP,NA,nc,rfl,hj,hlo,hhi,⟨hnc,hnm,hnn⟩,rfl,rfl,rfl⟩
 refine Ja (hN11 _ _ (gT [rowl _ _ _ _ _ _,box bt _,fr,box b2 _,rowl _ _ _ _ _ _] U (Jb [] trivial fun σ => Jg fun N12 hN12 => Jk (Jd (Jh U) U U U (Ja (hN12 _ _ (Jb [(4,.int _ _)] ⟨U,O⟩ fun σ => ?_)))))))
 refine Ke fun w1 hM => ?_
 refine ⟨_,res1 rfl (rt (v := .int _ _) rfl),?_⟩
 have h9 := Um 4 3 rfl _ hM
 refine ⟨_,_,_,_,rfl,⟨0,_,_,_,_,_,rfl,(ins_len hj).symm,?_,?_,rfl,rfl,rfl⟩,h9⟩
 rw [fpl_ins]
 exact hOk.insert (by simpa using hl23) hco.path hco.lines (fun m hm hmj => by rw [List.getElem_map]; exact hlo m (by simpa using hm) hmj) (fun m hm hmj => by rw [List.getElem_map]; exact hhi m (by simpa using hm) hmj) hun
 exact ins_files (fun w1 ho => ⟨(Qw (f := strCells) (fun _ => rfl) ho.2.1).mono (Nat.zero_le _),sb16 hnc hnm hnn (by have h8 := Qu hco.lines; show x.lines.length ≤ 200; omega)⟩)
 replace hc20 := odf hc20
 refine Jg fun N13 hN13 => Jk (Jd (Jn U) U U U (Jd (Mp U) U U U (Jd (Ji U) U U U (Ja (hN13 _ _ (Jb [(1,.pointer (some ⟨bt,0,none⟩)),(2,.pointer _),(5,.int _ _),(43,.bool _)] ⟨U,U,U,U,O⟩ fun σ => ?_))))))
 refine Jt (b := _) U (fun hc43 => ?_) (fun hc43 => ?_)
 replace hc43 := Ub hc43
 refine Jg fun N14 hN14 => Jk (Jd (Jh U) U U U (Ja (hN14 _ _ (Jb [(4,.int _ _)] ⟨U,O⟩ fun σ => ?_))))
 refine Ke fun w1 hM => ?_
 refine ⟨_,res1 rfl (rt (v := .int _ _) rfl),?_⟩
 have h9 := Um 4 3 rfl _ hM
 exact ⟨_,_,_,_,rfl,⟨_,_,fc,_,fs,_,rfl,rfl,hOk,fun f hf => .inl hf,rfl,rfl,rfl⟩,h9⟩
 obtain ⟨hk1,hkp⟩ := hf1 (by simpa using hc43)
 have hol : fs[k].pl.lines.length ≤ 120 := Qu (v.lines _ (List.mem_map_of_mem (List.getElem_mem hk1)))
 refine Un (fun w hM => (hFR w (hM.ok _ (List.mem_of_getElem? (i := 2) U)) _ (List.getElem_mem hk1)).sb.nil) ?_
 intro hon
 refine Un (fun w hM => Xn (hM.ok _ (List.mem_of_getElem? (i := 0) U)) (by omega)) ?_
 rintro ⟨gF,rfl⟩
 refine Jw (hN3 _ _ (Jb [(1,.pointer (some ⟨bt,0,none⟩)),(2,.pointer _),(5,.int _ _)] ⟨U,U,U,O⟩ fun σ => Jg fun N15 hN15 => Jk (Jd (Ju (v := .pointer (some ⟨bt,0,none⟩)) U) U U U (Jd (Jy U) U U U (Jd (Jc Qm U) U U U (Jd (Jq Tryz.isAgg59 U (Jm 1 U U)) U U U (Jd (Jf U) U U U (Jd (Jz (m := k) Tryz.underlying59 Tryz.sizeOf85 U U (by omega) (by omega) (by omega)) U U U ?_))))))))
 refine Jd (Kv Zf U) U U U ?_
 refine Jd (Jq Tryz.isAgg22 U (Mj 0 (f := fileCells) (l := fs) U U (fun _ => U) (List.getElem?_eq_getElem hk1) 1 _ U)) U U U ?_
 refine Jd (Kq U) U U U (Ja (hN15 _ _ (Jb [(1,.pointer (some ⟨bt,0,none⟩)),(2,.pointer _),(5,.int _ _),(7,.slice _ _ _)] ⟨U,U,U,U,O⟩ fun σ => Jg fun N16 hN16 => Jg fun N17 hN17 => Jk (Jd (Jc KQ U) U U U (Jd (Jq Tryz.isAgg3 U (Jm 3 U U)) U U U (Ja (hN17 _ _ (Jb [(1,.pointer (some ⟨bt,0,none⟩)),(2,.pointer _),(5,.int _ _),(7,.slice _ _ _),(55,.int _ _)] ⟨U,U,U,U,U,O⟩ fun σ => ?_))))))))
 refine Kn (Jg fun N18 hN18 => Jk (Jd (Mc U U) U U U (Jd (Ji U) U U U (Ja (hN18 _ _ (Jb [(1,.pointer (some ⟨bt,0,none⟩)),(2,.pointer _),(5,.int _ _),(7,.slice _ _ _),(55,.int _ _),(76,.bool _)] ⟨U,U,U,U,U,U,O⟩ fun σ => ?_))))))
 refine Jt (b := _) U (fun hc76 => ?_) (fun hc76 => ?_)
 replace hc76 := odt hc76
 refine Jg fun N19 hN19 => Jg fun N20 hN20 => Jk (Jd (Kl U) U U U (Jd (Jc Wt U) U U U (Jd (Jq Tryz.isAgg22 U (Jm 3 U U)) U U U ?_)))
 refine Km (Kb (vs := [.slice _ _ _,.slice _ _ _]) Tryz.func72 U (by kernel_rfl) U) (fun w hM => by have h1 := (hFR w (hM.ok _ (List.mem_of_getElem? (i := 2) rfl)) _ (List.getElem_mem hk1)).rd; have hc := equal_any w fs[k].A x.LA fs[k].c x.lc fs[k].pl.lines x.lines h1 (hx.rd.base hM) _ rfl (by unfold maxLen; omega); exact hc) U U U ?_
 refine Jd (Mp U) U U U (Ja (hN20 _ _ (Jb [(1,.pointer (some ⟨bt,0,none⟩)),(5,.int _ _),(82,.bool _)] ⟨U,U,U,O⟩ fun σ => ?_)))
 refine Jt (b := _) U (fun hc82 => ?_) (fun hc82 => ?_)
 replace hc82 := Ub hc82
 refine Jg fun N21 hN21 => Jk (Jd (Jh U) U U U (Ja (hN21 _ _ (Jb [(4,.int _ _)] ⟨U,O⟩ fun σ => ?_))))
 refine Ke fun w1 hM => ?_
 refine ⟨_,res1 rfl (rt (v := .int _ _) rfl),?_⟩
 have h9 := Um 4 3 rfl _ hM
 exact ⟨_,_,_,_,rfl,⟨_,_,fc,_,fs,_,rfl,rfl,hOk,fun f hf => .inl hf,rfl,rfl,rfl⟩,h9⟩
 replace hc82 := Ue hc82
 refine Jw (hN19 _ _ (Jb [(1,.pointer (some ⟨bt,0,none⟩)),(5,.int _ _)] ⟨U,U,O⟩ fun σ => Jk (Jd (Ju (v := .pointer (some ⟨bt,0,none⟩)) U) U U U (Jd (Ju (v := .pointer (some ⟨bt,0,none⟩)) U) U U U (Jd (Jy U) U U U (Jd (Jc Qm U) U U U (Jd (Jq Tryz.isAgg59 U (Jm 1 U U)) U U U (Jd (Jf U) U U U ?_))))))))
 refine Jd (Jf U) U U U (Jd (Kr U U ⟨by omega,by omega⟩) U U U ?_)
 refine Mu 0 (fun u r G => r = rowl fileCells w0.heap.size 85 2 (u) (fs.take k ++ fs.drop (k + 1)) ∧ G = []) (Kb (vs := [.slice _ _ _,.int _ _,.int _ _]) Tryz.func90 U (by kernel_rfl) U) U (fun w fr1 hfr hM => (deleteF_any w0 w _ fc k fs fr1 hM hk1 (by omega)).mono fun _ _ ⟨v,r',G,h1,h2,h3⟩ => ⟨v,r',G,h1,h2,h3⟩) U U U ?_
 rintro v91 _ _ ⟨rfl,rfl⟩
 refine Ky (fun w hM => Mz (hM.ok _ (List.mem_of_getElem? (i := 0) U))) ?_
 rintro ⟨A91,c91,rfl,hc91,hm91,hn91⟩
 refine Jd (Jy U) U U U (Jd (Jc Qm U) U U U (Jr 1 (v := .slice A91 _ c91) (cs' := #[_]) U U Tryz.sizeOf59 U U U U (leb U) U U (Ja (hN16 _ _ (gT [rowl _ _ _ _ _ _,box bt _,fr,box b2 _] U (Jb [] trivial fun σ => Jg fun N22 hN22 => Jk (Jd (Jh U) U U U (Ja ?_))))))))
 refine hN22 _ _ (Jb [(4,.int _ _)] ⟨U,O⟩ fun σ => ?_)
 refine Ke fun w1 hM => ?_
 refine ⟨_,res1 rfl (rt (v := .int _ _) rfl),?_⟩
 have h9 := Um 4 3 rfl _ hM
 refine ⟨_,_,_,_,rfl,⟨0,_,_,_,_,_,rfl,rfl,?_,fun f hf => .inl (KU f hf),rfl,rfl,rfl⟩,h9⟩
 rw [fpl_del]; exact hOk.sub (del_sub _ _)
 replace hc76 := odf hc76
 refine Jg fun N23 hN23 => Jk (Jd (Mc U U) U U U (Jd (Ji U) U U U (Ja (hN23 _ _ (Jb [(1,.pointer (some ⟨bt,0,none⟩)),(2,.pointer _),(5,.int _ _),(7,.slice _ _ _),(94,.bool _)] ⟨U,U,U,U,U,O⟩ fun σ => ?_)))))
 refine Jt (b := _) U (fun hc94 => ?_) (fun hc94 => ?_)
 replace hc94 := odt hc94
 have hk3 : x.kind = 3 := hc94
 refine Jg fun N24 hN24 => Jg fun N25 hN25 => ?_
 refine Qx (by kernel_rfl) (by kernel_rfl) ?_
 refine gq (Ju (v := .pointer (some ⟨bt,0,none⟩)) U) U U U (gq (Jy U) U U U (gq (Jc Qm U) U U U (gq (Jq Tryz.isAgg59 U (Jm 1 U U)) U U U (gq (Jc Xe U) U U U (gq (Jq Tryz.isAgg9 U (Jm 3 U U)) U U U (gq (Jf U) U U U ?_))))))
 refine Ww (Kb (vs := [.slice _ _ _,.string _,.int _ _]) Tryz.func83 U (by kernel_rfl) U) (fun w hM => by have hc := KZ w _ _ fc fs ((Qw (f := fileCells) (fun _ => rfl) (hM.ok _ (List.mem_of_getElem? (i := 0) rfl))).mono (Nat.zero_le _)) rfl (by omega) x.dest (k : Int) (Nat.le_trans (Qi (hco.dest hk3)) (by decide)) (fun f hf => Nat.le_trans (Qi (v.ok _ (List.mem_map_of_mem hf))) (by decide)); exact hc) U U U ?_
 refine Mn ?_
 refine hN25 _ _ (Jb [(1,.pointer (some ⟨bt,0,none⟩)),(2,.pointer _),(5,.int _ _),(7,.slice _ _ _),(103,.bool _)] ⟨U,U,U,U,U,O⟩ fun σ => ?_)
 refine Jt (b := _) U (fun hc103 => ?_) (fun hc103 => ?_)
 refine Jg fun N26 hN26 => Jk (Jd (Jh U) U U U (Ja (hN26 _ _ (Jb [(4,.int _ _)] ⟨U,O⟩ fun σ => ?_))))
 refine Ke fun w1 hM => ?_
 refine ⟨_,res1 rfl (rt (v := .int _ _) rfl),?_⟩
 have h9 := Um 4 3 rfl _ hM
 exact ⟨_,_,_,_,rfl,⟨_,_,fc,_,fs,_,rfl,rfl,hOk,fun f hf => .inl hf,rfl,rfl,rfl⟩,h9⟩
 have hun := clash_d hc103
 have hOk2 : TOk (fpl (fs.take k ++ fs.drop (k + 1))) := by rw [fpl_del]; exact hOk.sub (del_sub _ _)
 refine Jw (hN24 _ _ (Jb [(1,.pointer (some ⟨bt,0,none⟩)),(2,.pointer _),(5,.int _ _),(7,.slice _ _ _)] ⟨U,U,U,U,O⟩ fun σ => Jg fun N27 hN27 => Jk (Jd (Ju (v := .pointer (some ⟨bt,0,none⟩)) U) U U U (Jd (Ju (v := .pointer (some ⟨bt,0,none⟩)) U) U U U (Jd (Jy U) U U U (Jd (Jc Qm U) U U U (Jd (Jq Tryz.isAgg59 U (Jm 1 U U)) U U U (Jd (Jf U) U U U ?_))))))))
 refine Jd (Jf U) U U U (Jd (Kr U U ⟨by omega,by omega⟩) U U U ?_)
 refine Mu 0 (fun u r G => r = rowl fileCells w0.heap.size 85 2 (u) (fs.take k ++ fs.drop (k + 1)) ∧ G = []) (Kb (vs := [.slice _ _ _,.int _ _,.int _ _]) Tryz.func90 U (by kernel_rfl) U) U (fun w fr1 hfr hM => (deleteF_any w0 w _ fc k fs fr1 hM hk1 (by omega)).mono fun _ _ ⟨v,r',G,h1,h2,h3⟩ => ⟨v,r',G,h1,h2,h3⟩) U U U ?_
 rintro v112 _ _ ⟨rfl,rfl⟩
 refine Ky (fun w hM => Mz (hM.ok _ (List.mem_of_getElem? (i := 0) U))) ?_
 rintro ⟨A112,c112,rfl,hc112,hm112,hn112⟩
 refine Jd (Jy U) U U U (Jd (Jc Qm U) U U U (Jr 1 (v := .slice A112 _ c112) (cs' := #[_]) U U Tryz.sizeOf59 U U U U (leb U) U U (Ja (hN27 _ _ (gT [rowl _ _ _ _ _ _,box bt _,fr,box b2 _] U (Jb [(1,.pointer (some ⟨bt,0,none⟩)),(2,.pointer _),(7,.slice _ _ _)] ⟨U,U,U,O⟩ fun σ => Jk (Jd (Ju (v := .pointer (some ⟨bt,0,none⟩)) U) U U U (Jd (Jc Xe U) U U U ?_))))))))
 refine Jd (Jq Tryz.isAgg9 U (Jm 3 U U)) U U U (Jd (Kl U) U U U ?_)
 refine Qk 0 1 (fun u r s G => ∃ (j g c' : Nat) (NA : Option Addr) (nc : Nat),u = .tuple #[] ∧ j ≤ (fs.take k ++ fs.drop (k + 1)).length ∧ (∀ m (h : m < (fs.take k ++ fs.drop (k + 1)).length),m < j → ltS (fs.take k ++ fs.drop (k + 1))[m].pl.path x.dest) ∧ (∀ m (h : m < (fs.take k ++ fs.drop (k + 1)).length),j ≤ m → ¬ ltS (fs.take k ++ fs.drop (k + 1))[m].pl.path x.dest) ∧ ((fs[k].pl.lines).length ≤ nc ∧ nc ≤ maxLen ∧ (NA = none → nc = 0)) ∧ r = rowl fileCells w0.heap.size 85 2 (.slice (some ⟨g,0,none⟩) ((fs.take k ++ fs.drop (k + 1)).length + 1) c') ((fs.take k ++ fs.drop (k + 1)).take j ++ ⟨⟨x.dest,fs[k].pl.lines⟩,NA,nc⟩ :: (fs.take k ++ fs.drop (k + 1)).drop j) ∧ s = box bt (.cells #[.slice (some ⟨g,0,none⟩) ((fs.take k ++ fs.drop (k + 1)).length + 1) c'] 61) ∧ G = [rowl strCells w0.heap.size 9 1 (.slice NA (fs[k].pl.lines).length nc) (fs[k].pl.lines)]) (Kb (vs := [.pointer (some ⟨bt,0,none⟩),.string _,.slice _ _ _]) Tryz.func89 U (by kernel_rfl) U) U U U (fun w fr1 hfr hM => put_any w0 w bt c112 A112 (fs.take k ++ fs.drop (k + 1)) fr1 hM (fun w1 ho f hf => hFR w1 (hfr 2 _ U (by decide) (by decide) w1 ho) f (KU f hf)) hOk2.v x.dest (un_ne hun) fs[k].A fs[k].c (fs[k].pl.lines) (fun w1 T1 hM1 ho => (hFR w1 (hfr 2 _ U (by decide) (by decide) w1 ho) _ (List.getElem_mem hk1)).rd) hol hon) U U U ?_
 rintro _ _ _ _ ⟨j,gP,cP,NA,nc,rfl,hj,hlo,hhi,⟨hnc,hnm,hnn⟩,rfl,rfl,rfl⟩
 refine Ja (hN16 _ _ (gT [rowl _ _ _ _ _ _,box bt _,fr,box b2 _,rowl _ _ _ _ _ _] U (Jb [] trivial fun σ => Jg fun N28 hN28 => Jk (Jd (Jh U) U U U (Ja (hN28 _ _ (Jb [(4,.int _ _)] ⟨U,O⟩ fun σ => ?_)))))))
 refine Ke fun w1 hM => ?_
 refine ⟨_,res1 rfl (rt (v := .int _ _) rfl),?_⟩
 have h9 := Um 4 3 rfl _ hM
 refine ⟨_,_,_,_,rfl,⟨0,_,_,_,_,_,rfl,(ins_len hj).symm,?_,?_,rfl,rfl,rfl⟩,h9⟩
 have hov : linesF fs[k].pl.lines = ⟨0,0⟩ := v.lines _ (List.mem_map_of_mem (List.getElem_mem hk1))
 rw [fpl_ins]
 exact hOk2.insert (by rw [fpl,List.length_map,del_len hk1]; omega) (hco.dest hk3) hov (fun m hm hmj => by rw [List.getElem_map]; exact hlo m (by simpa using hm) hmj) (fun m hm hmj => by rw [List.getElem_map]; exact hhi m (by simpa using hm) hmj) hun
 intro f hf
 rcases List.mem_append.1 hf with h8 | h8
 exact .inl (KU f (List.mem_of_mem_take h8))
 rcases List.mem_cons.1 h8 with rfl | h8
 exact .inr fun w1 ho => ⟨(Qw (f := strCells) (fun _ => rfl) ho.2.1).mono (Nat.zero_le _),sb16 hnc hnm hnn (by show fs[k].pl.lines.length ≤ 200; omega)⟩
 exact .inl (KU f (List.mem_of_mem_drop h8))
 replace hc94 := odf hc94
 refine Jg fun N29 hN29 => Jk (Jd (Jc Ud U) U U U ?_)
 refine Jd (Kk (cs := [.slice x.PA x.hs.length x.pc]) Tryz.isAgg27 Tryz.sizeOf27 U U ((fun j u hu => by have h9 := (List.getElem?_eq_some_iff.1 hu).1; simp at h9; subst h9; exact Jm 3 (off := 4) rfl hu))) U U U ?_
 refine Jd (Kl U) U U U ?_
 refine My (fun v T' => ∃ lo u,v = .tuple #[u,fv (applyF (pls x.hs) fs[k].pl.lines)] ∧ w0.heap.size ≤ lo ∧ T' = [rowl strCells lo 9 1 u (applyR (pls x.hs) fs[k].pl.lines)]) (Kb (vs := [.agg #[_],.slice _ _ _]) Tryz.func91 U (by kernel_rfl) U) (fun w hM => by have h1 := hFR w (hM.ok _ (List.mem_of_getElem? (i := 2) rfl)) _ (List.getElem_mem hk1); have hc := apply_any w x.PA x.pc x.hs (PatR.lasts.base hx.pat hM) fs[k].A fs[k].c fs[k].pl.lines h1.rd h1.sb; exact hc.mono fun _ _ ⟨v,T1,h1,h2,h3⟩ => ⟨_,T1,h1,⟨_,v,rfl,hM.low.size,h2⟩,h3⟩) U U U ?_
 rintro _ _ ⟨lo60,u60,rfl,hlo60,rfl⟩
 refine Ky (fun w hM => Mz (hM.ok _ (List.mem_of_getElem? (i := 4) U))) ?_
 rintro ⟨A60,c60,rfl,hc60,hm60,hn60⟩
 refine Jd (Ju (v := .tuple #[.slice A60 _ c60,.agg #[_,_]]) U) U U U (Jd (Qz U U) U U U (Jd (Mw (v := .agg #[_,_]) U U) U U U ?_))
 refine Ka (cs := #[.int .i64 0,.int .i64 0]) Tryz.zeroValue33 U U (fun b9 hb9 => ?_)
 refine Jd (Kq U) U U U (Jr 5 (v := .agg #[_,_]) (cs' := #[_,_]) U U Tryz.sizeOf33 U U U U (leb U) U U (Ja (hN29 _ _ (gT [rowl _ _ _ _ _ _,box bt _,fr,box b2 _,rowl _ _ _ _ _ _,box b9 _] U (Jb [(1,.pointer (some ⟨bt,0,none⟩)),(5,.int _ _),(8,.slice _ _ _),(9,.pointer _)] ⟨U,U,U,U,O⟩ fun σ => Jg fun N30 hN30 => Jg fun N31 hN31 => Jk (Jd (Kk (cs := [_,_]) Tryz.isAgg33 Tryz.sizeOf33 U U (Kf 5 U)) U U U (Jd (Kd (vs := []) (cells := #[.int .i64 0,.int .i64 0]) U Qh) U U U (Jd (Uk (vx := .agg #[_,_]) (vy := .agg #[_,_]) U U (fun w => eg33 _ _ _ _ _ w) (fun w => ne33 _ _ _ _ w)) U U U ?_))))))))
 refine Ja (hN31 _ _ (Jb [(1,.pointer (some ⟨bt,0,none⟩)),(5,.int _ _),(8,.slice _ _ _),(9,.pointer _),(65,.bool _)] ⟨U,U,U,U,U,O⟩ fun σ => ?_))
 refine Jt (b := _) U (fun hc65 => ?_) (fun hc65 => ?_)
 replace hc65 := Qe.1 hc65
 refine Jg fun N32 hN32 => Jk (Jd (Jc Uo U) U U U (Jd (Jq Tryz.isAgg3 U (Jm 5 U U)) U U U (Jd (Jh U) U U U (Ja (hN32 _ _ (Jb [(4,.int _ _)] ⟨U,O⟩ fun σ => ?_))))))
 refine Ke fun w1 hM => ?_
 refine ⟨_,res1 rfl (rt (v := .int _ _) rfl),?_⟩
 have h9 := Um 4 3 rfl _ hM
 exact ⟨_,_,_,_,rfl,⟨_,_,fc,_,fs,_,rfl,rfl,hOk,fun f hf => .inl hf,rfl,rfl,rfl⟩,h9⟩
 replace hc65 := Qf.1 hc65
 refine Jw (hN30 _ _ (Jb [(1,.pointer (some ⟨bt,0,none⟩)),(5,.int _ _),(8,.slice _ _ _)] ⟨U,U,U,O⟩ fun σ => Jk (Jd (Ju (v := .pointer (some ⟨bt,0,none⟩)) U) U U U (Jd (Jy U) U U U (Jd (Jc Qm U) U U U (Jd (Jq Tryz.isAgg59 U (Jm 1 U U)) U U U (Jd (Jf U) U U U (Jd (Kl U) U U U ?_))))))))
 refine Jd (Jz (m := k) Tryz.underlying59 Tryz.sizeOf85 U U (by omega) (by omega) (by omega)) U U U (Jd (Kv Zf U) U U U ?_)
 refine Mk 0 (f := fileCells) (l := fs) (k := k) (o := 1) (v := .slice _ _ _) (a := fs[k]) (a' := ⟨⟨fs[k].pl.path,applyR (pls x.hs) fs[k].pl.lines⟩,A60,c60⟩) (fun _ => U) U U U Tryz.sizeOf22 U U U U U (List.getElem?_eq_getElem hk1) (leb U) U U ?_
 refine Ja (hN16 _ _ (gT [rowl _ _ _ _ _ _,box bt _,fr,box b2 _,rowl _ _ _ _ _ _,box b9 _] U (Jb [] trivial fun σ => Jg fun N33 hN33 => Jk (Jd (Jh U) U U U (Ja (hN33 _ _ (Jb [(4,.int _ _)] ⟨U,O⟩ fun σ => ?_)))))))
 refine Ke fun w1 hM => ?_
 refine ⟨_,res1 rfl (rt (v := .int _ _) rfl),?_⟩
 have h9 := Um 4 3 rfl _ hM
 refine ⟨_,_,_,_,rfl,⟨0,_,_,_,_,_,rfl,List.length_set.symm,?_,?_,rfl,rfl,rfl⟩,h9⟩
 rw [fpl_edit hk1]
 exact hOk.edit (by simpa using hk1) (apply_lines hc65)
 intro f hf
 rcases List.mem_or_eq_of_mem_set hf with h8 | rfl
 exact .inl h8
 exact .inr fun w1 ho => ⟨(Qw (f := strCells) (fun _ => rfl) ho.2.1).mono (Nat.zero_le _),sb16 hc60 hm60 hn60 (by have h7 := Qu (apply_lines hc65); show (applyR (pls x.hs) fs[k].pl.lines).length ≤ 200; omega)⟩
end Go.Proofs.YtbkameioedmlkaaGreatDoor
namespace Go.Proofs.YtbkameioedmlkaaGreatDoor
open Go.RowKit Go.Cf
set_option maxRecDepth 10000
set_option maxHeartbeats 32000000 in
theorem tapply_any (w : World) (XA : Option Addr) (xc : Nat) (l : List ChgC) (hl : Rdl w 0 5 chgCells XA l) (hx : ∀ x ∈ l, ChgR w 0 x) (hn : l.length ≤ maxLen) (A : Option Addr) (c : Nat) (fs : List FileC) (hR : TreeR w 0 A c fs) : Calls Tryz.prog 25 #[.agg #[.slice XA l.length xc], .agg #[.slice A fs.length c]] w fun e w' => ∃ v T', e = .returned v ∧ (∃ (GA : Option Addr) (gc n : Nat) (gs : List FileC) (gr : Reg) (f : Fault), v = .tuple #[.agg #[.slice GA n gc], fv f] ∧ n = gs.length ∧ (f.code = 0 → treeF (fpl fs) = ⟨0, 0⟩ ∧ TOk (fpl gs)) ∧ (∀ w1, gr.ok w1 → ∀ f ∈ gs, FileR w1 0 f) ∧ T' = [rowl fileCells w.heap.size 85 2 (.slice GA n gc) (gs), gr]) ∧ Mem w T' w' := by
 have hsl := hR.sb.len
 have hsm := hR.sb.max
 have hmx : maxLen = 9223372036854775807 := rfl
 have hmx : maxLen = 9223372036854775807 := rfl
 refine Kz Tryz.func25 U Tryz.ntmps25 (leb U) ?_
 refine Jb [(0,.agg #[_]),(1,.agg #[_])] ⟨U,U,O⟩ fun σ => Jg fun N1 hN1 => Jk ?_
 refine Mt (v := .agg #[_]) (cs := #[_]) U U U (fun b2 hb2 => ?_)
 refine Mt (v := .agg #[_]) (cs := #[_]) U U U (fun b3 hb3 => ?_)
 refine Ka (cs := #[.slice none 0 0]) Tryz.zeroValue61 U U (fun b4 hb4 => ?_)
 refine Ka (cs := #[.int .i64 0,.int .i64 0]) Tryz.zeroValue33 U U (fun b5 hb5 => ?_)
 refine Ja (hN1 _ _ (gT [box b2 _,box b3 _,box b4 _,box b5 _] U (Jb [(2,.pointer _),(3,.pointer _),(4,.pointer _),(5,.pointer _)] ⟨U,U,U,U,O⟩ fun σ => Jg fun N2 hN2 => Jg fun N3 hN3 => Jk (Jd (Kk (cs := [_]) Tryz.isAgg81 Tryz.sizeOf81 U U (Kf 0 U)) U U U ?_))))
 refine My (fun v T' => T' = [] ∧ ∃ f : Fault,v = fv f ∧ (f.code = 0 → f = ⟨0,0⟩ ∧ l.length ≤ 30 ∧ ∀ x ∈ l,COk x)) (Kb (vs := [.agg #[_]]) Tryz.func51 U (by kernel_rfl) U) (fun w hM => (vpatch_any w XA xc l (hl.base hM) (fun x h => ChgR.lasts.base (hx x h) hM) hn).mono fun _ _ ⟨f,h1,h2,h3⟩ => ⟨_,[],h1,⟨U,f,U,h3⟩,(Mem.start w).call h2⟩) U U U ?_
 rintro _ _ ⟨rfl,f13,rfl,hf13⟩
 refine Ka (cs := #[.int .i64 0,.int .i64 0]) Tryz.zeroValue33 U U (fun b6 hb6 => ?_)
 refine Jr 4 (v := .agg #[_,_]) (cs' := #[_,_]) U U Tryz.sizeOf33 U U U U (leb U) U U (Ja (hN3 _ _ (gT [box b2 _,box b3 _,box b4 _,box b5 _,box b6 _] U (Jb [(2,.pointer _),(3,.pointer _),(4,.pointer _),(5,.pointer _),(6,.pointer _)] ⟨U,U,U,U,U,O⟩ fun σ => Jg fun N4 hN4 => Jk (Jd (Kk (cs := [_,_]) Tryz.isAgg33 Tryz.sizeOf33 U U (Kf 4 U)) U U U (Jd (Kd (vs := []) (cells := #[.int .i64 0,.int .i64 0]) U Qh) U U U (Jd (Uk (vx := .agg #[_,_]) (vy := .agg #[_,_]) U U (fun w => eg33 _ _ _ _ _ w) (fun w => ne33 _ _ _ _ w)) U U U (Ja ?_))))))))
 refine hN4 _ _ (Jb [(2,.pointer _),(3,.pointer _),(4,.pointer _),(5,.pointer _),(6,.pointer _),(16,.bool _)] ⟨U,U,U,U,U,U,O⟩ fun σ => ?_)
 refine Jt (b := _) U (fun hc16 => ?_) (fun hc16 => ?_)
 replace hc16 := Qe.1 hc16
 refine Jg fun N5 hN5 => ?_
 refine Qr [] [(2,room b4 61 1),(3,room b5 33 2)] (by kernel_rfl) ?_
 refine Jv 0 (TK := [box b2 _,box b3 _,room b4 61 1,room b5 33 2,box b6 _]) U (by kernel_rfl) (by kernel_rfl) (by kernel_rfl) #[false,true,false,false] (by kernel_rfl) U (Kd (vs := []) (cells := #[.slice none 0 0]) U bd61_) U U U (Mb (Kj 2 U U) (Kj 3 U U)) (listed' := #[true,false,false,false]) U ?_
 refine Jv 1 (TK := [box b2 _,box b3 _,room b4 61 1,room b5 33 2,box b6 _]) U (by kernel_rfl) (by kernel_rfl) (by kernel_rfl) #[true,false,true,false] (by kernel_rfl) U (Kk (cs := [_,_]) Tryz.isAgg33 Tryz.sizeOf33 U U (Kf 4 U)) U U U (Mb (Kj 2 U U) (Kj 3 U U)) (listed' := #[true,true,false,false]) U ?_
 refine Mr 2 (k' := 0) (listed' := #[true,true,true,false]) (by kernel_rfl) U U U ?_
 refine Jr 2 (v := .agg #[_]) (cs' := #[_]) U U Tryz.sizeOf61 U U U U (leb U) U U (Ja ?_)
 refine Mo (TK := [box b2 _,box b3 _,room b4 61 1,room b5 33 2,box b6 _]) U (Mb (Kj 2 U U) (Kj 3 U U)) ?_
 refine Mr 3 (k' := 0) (listed' := #[true,true,true,true]) (by kernel_rfl) U U U ?_
 refine Jr 3 (v := .agg #[_,_]) (cs' := #[_,_]) U U Tryz.sizeOf33 U U U U (leb U) U U (Ja ?_)
 refine Mo (TK := [box b2 _,box b3 _,room b4 61 1,room b5 33 2,box b6 _]) U (Mb (Kj 2 U U) (Kj 3 U U)) ?_
 refine Qd (by kernel_rfl) ?_
 refine hN5 _ _ (gT [box b2 _,box b3 _,box b4 _,box b5 _,box b6 _] U (Jb [(4,.pointer _),(5,.pointer _)] ⟨U,U,O⟩ fun σ => ?_))
 refine Ke fun w1 hM => ?_
 refine ⟨_,res2 rfl (rc 2 (cs := [_]) hM rfl rfl Tryz.isAgg61 Tryz.sizeOf61 rfl) (rc 3 (cs := [_,_]) hM rfl rfl Tryz.isAgg33 Tryz.sizeOf33 rfl),?_⟩
 exact ⟨_,_,rfl,⟨none,0,0,[],emp,f13,rfl,rfl,fun h => absurd (hf13 h).1 hc16,fun _ _ _ h => (by cases h),rfl⟩,((Qa fileCells 85 2 hM).emp).dropTo 5 rfl⟩
 replace hc16 := Qf.1 hc16
 obtain ⟨-,hl30,hco⟩ := hf13 (by rw [hc16])
 refine Jw (hN2 _ _ (Jb [(2,.pointer _),(3,.pointer _),(4,.pointer _),(5,.pointer _)] ⟨U,U,U,U,O⟩ fun σ => Jg fun N6 hN6 => Jg fun N7 hN7 => Jk (Jd (Kk (cs := [_]) Tryz.isAgg61 Tryz.sizeOf61 U U (Kf 1 U)) U U U ?_)))
 refine Km (Kb (vs := [.agg #[_],_]) Tryz.func36 U (by kernel_rfl) U) (fun w hM => Wn w A c fs (hR.base hM) (-2)) U U U ?_
 refine Ka (cs := #[.int .i64 0,.int .i64 0]) Tryz.zeroValue33 U U (fun b7 hb7 => ?_)
 refine Jr 5 (v := .agg #[_,_]) (cs' := #[_,_]) U U Tryz.sizeOf33 U U U U (leb U) U U (Ja (hN7 _ _ (gT [box b2 _,box b3 _,box b4 _,box b5 _,box b6 _,box b7 _] U (Jb [(2,.pointer _),(3,.pointer _),(4,.pointer _),(5,.pointer _),(7,.pointer _)] ⟨U,U,U,U,U,O⟩ fun σ => Jg fun N8 hN8 => Jk (Jd (Kk (cs := [_,_]) Tryz.isAgg33 Tryz.sizeOf33 U U (Kf 5 U)) U U U (Jd (Kd (vs := []) (cells := #[.int .i64 0,.int .i64 0]) U Qh) U U U (Jd (Uk (vx := .agg #[_,_]) (vy := .agg #[_,_]) U U (fun w => eg33 _ _ _ _ _ w) (fun w => ne33 _ _ _ _ w)) U U U (Ja ?_))))))))
 refine hN8 _ _ (Jb [(2,.pointer _),(3,.pointer _),(4,.pointer _),(5,.pointer _),(7,.pointer _),(23,.bool _)] ⟨U,U,U,U,U,U,O⟩ fun σ => ?_)
 refine Jt (b := _) U (fun hc23 => ?_) (fun hc23 => ?_)
 replace hc23 := Qe.1 hc23
 refine Jg fun N9 hN9 => ?_
 refine Qr [] [(2,room b4 61 1),(3,room b5 33 2)] (by kernel_rfl) ?_
 refine Jv 0 (TK := [box b2 _,box b3 _,room b4 61 1,room b5 33 2,box b6 _,box b7 _]) U (by kernel_rfl) (by kernel_rfl) (by kernel_rfl) #[false,true,false,false] (by kernel_rfl) U (Kd (vs := []) (cells := #[.slice none 0 0]) U bd61_) U U U (Mb (Kj 2 U U) (Kj 3 U U)) (listed' := #[true,false,false,false]) U ?_
 refine Jv 1 (TK := [box b2 _,box b3 _,room b4 61 1,room b5 33 2,box b6 _,box b7 _]) U (by kernel_rfl) (by kernel_rfl) (by kernel_rfl) #[true,false,true,false] (by kernel_rfl) U (Kk (cs := [_,_]) Tryz.isAgg33 Tryz.sizeOf33 U U (Kf 5 U)) U U U (Mb (Kj 2 U U) (Kj 3 U U)) (listed' := #[true,true,false,false]) U ?_
 refine Mr 2 (k' := 0) (listed' := #[true,true,true,false]) (by kernel_rfl) U U U ?_
 refine Jr 2 (v := .agg #[_]) (cs' := #[_]) U U Tryz.sizeOf61 U U U U (leb U) U U (Ja ?_)
 refine Mo (TK := [box b2 _,box b3 _,room b4 61 1,room b5 33 2,box b6 _,box b7 _]) U (Mb (Kj 2 U U) (Kj 3 U U)) ?_
 refine Mr 3 (k' := 0) (listed' := #[true,true,true,true]) (by kernel_rfl) U U U ?_
 refine Jr 3 (v := .agg #[_,_]) (cs' := #[_,_]) U U Tryz.sizeOf33 U U U U (leb U) U U (Ja ?_)
 refine Mo (TK := [box b2 _,box b3 _,room b4 61 1,room b5 33 2,box b6 _,box b7 _]) U (Mb (Kj 2 U U) (Kj 3 U U)) ?_
 refine Qd (by kernel_rfl) ?_
 refine hN9 _ _ (gT [box b2 _,box b3 _,box b4 _,box b5 _,box b6 _,box b7 _] U (Jb [(4,.pointer _),(5,.pointer _)] ⟨U,U,O⟩ fun σ => ?_))
 refine Ke fun w1 hM => ?_
 refine ⟨_,res2 rfl (rc 2 (cs := [_]) hM rfl rfl Tryz.isAgg61 Tryz.sizeOf61 rfl) (rc 3 (cs := [_,_]) hM rfl rfl Tryz.isAgg33 Tryz.sizeOf33 rfl),?_⟩
 exact ⟨_,_,rfl,⟨none,0,0,[],emp,secondF (treeF (fpl fs)) (-2),rfl,rfl,fun h => absurd (sec_eq _ QQ h).2 hc23,fun _ _ _ h => (by cases h),rfl⟩,((Qa fileCells 85 2 hM).emp).dropTo 6 rfl⟩
 replace hc23 := Qf.1 hc23
 have htz : treeF (fpl fs) = ⟨0,0⟩ := sec_ok hc23 (by decide)
 have v := Qq htz
 refine Jw (hN6 _ _ (Jb [(2,.pointer _),(3,.pointer _),(4,.pointer _),(5,.pointer _)] ⟨U,U,U,U,O⟩ fun σ => Jg fun N10 hN10 => Jk (Jd (Kk (cs := [_]) Tryz.isAgg61 Tryz.sizeOf61 U U (Kf 1 U)) U U U ?_)))
 refine My (fun v T' => ∃ (lo : Nat) (A' : Option Addr) (c' : Nat) (gs : List FileC) (gr : Reg),w.heap.size ≤ lo ∧ v = .agg #[.slice A' gs.length c'] ∧ fpl gs = fpl fs ∧ (∀ w1,gr.ok w1 → ∀ f ∈ gs,FileR w1 0 f) ∧ T' = [rowl fileCells lo 85 2 (.slice A' gs.length c') (gs),gr]) (Kb (vs := [.agg #[_]]) Tryz.func52 U (by kernel_rfl) U) (fun w hM => (copyTree_any w A c fs (hR.base hM) v).mono fun _ _ ⟨v,T1,h1,⟨A',c',gs,gr,h2,h3,h4,h5⟩,h6⟩ => ⟨v,T1,h1,⟨_,A',c',gs,gr,hM.low.size,h2,h3,h4,h5⟩,h6⟩) U U U ?_
 rintro _ _ ⟨lo27,A27,c27,gs0,gr0,hlo27,rfl,hg0,hgr0,rfl⟩
 refine Yk _ (Wg 6 U hlo27) ?_
 refine Ka (cs := #[.slice none 0 0]) Tryz.zeroValue61 U U (fun b8 hb8 => ?_)
 refine Jr 8 (v := .agg #[.slice A27 _ c27]) (cs' := #[_]) U U Tryz.sizeOf61 U U U U (leb U) U U (Ja (hN10 _ _ (gT [box b2 _,box b3 _,box b4 _,box b5 _,box b6 _,box b7 _,rowl _ _ _ _ _ _,gr0,box b8 _] U (Jb [(2,.pointer _),(4,.pointer _),(5,.pointer _),(8,.pointer _)] ⟨U,U,U,U,O⟩ fun σ => Jg fun N11 hN11 => Jg fun N12 hN12 => Jk (Jd (Jc fa81_0 U) U U U (Jd (Jq Tryz.isAgg79 U (Jm 0 U U)) U U U (Jd (Ks Tryz.underlying79 U) U U U (Jd (Jf U) U U U ?_))))))))
 refine Ja (hN12 _ _ (Jb [(4,.pointer _),(5,.pointer _),(8,.pointer _),(29,.slice _ _ _),(30,.int _ _),(31,.int _ _)] ⟨U,U,U,U,U,U,O⟩ fun σ => Kn ?_))
 refine Mm [(31,.int _ _)] [(4,.pointer _),(5,.pointer _),(8,.pointer _),(29,.slice _ _ _),(30,.int _ _)] ⟨U,O⟩ ⟨U,U,U,U,U,O⟩ fun σ => ?_
 refine Ml (G := Nat × Option Addr × Nat × List FileC × Reg) (fun (k,GA,gc,gs,gr) => k ≤ l.length ∧ TOk (fpl gs) ∧ ∀ w1,gr.ok w1 → ∀ f ∈ gs,FileR w1 0 f) (fun (k,GA,gc,gs,gr) => l.length - k) (fun (k,GA,gc,gs,gr) => [(31,.int .i64 (k : Int))]) (fun (k,GA,gc,gs,gr) => [(6,rowl fileCells w.heap.size 85 2 (.slice GA gs.length gc) (gs)),(7,gr),(8,box b8 (.cells #[.slice GA gs.length gc] 61))]) ((0,A27,c27,gs0,gr0)) ?h0 ⟨U,O⟩ ⟨U,U,U,U,U,O⟩ U ?round
 case h0 => exact ⟨Nat.zero_le _,(by rw [hg0]; exact tok_of htz),hgr0⟩
 case round =>
  rintro ⟨k,GA,gc,gs,gr⟩ hφ σ
  obtain ⟨hk,hOk,hgr⟩ : k ≤ l.length ∧ TOk (fpl gs) ∧ ∀ w1,gr.ok w1 → ∀ f ∈ gs,FileR w1 0 f := hφ
  refine gT [box b2 _,box b3 _,box b4 _,box b5 _,box b6 _,box b7 _,rowl _ _ _ _ _ _,gr,box _ _] U (Jg fun N13 hN13 => Jk (Jd (Me U U) U U U (Ja (hN13 _ _ (Jb [(4,.pointer _),(5,.pointer _),(8,.pointer _),(29,.slice _ _ _),(30,.int _ _),(31,.int _ _),(32,.bool _)] ⟨U,U,U,U,U,U,U,O⟩ fun σ => Jg fun N14 hN14 => ?_)))))
  refine Jt (b := _) U (fun hc32 => ?_) (fun hc32 => ?_)
  replace hc32 := odt hc32
  have hk1 : k < l.length := by omega
  obtain ⟨ad,rfl,-,hca⟩ := hl.at_ hk1
  refine Jw (hN14 _ _ (Jb [(4,.pointer _),(5,.pointer _),(8,.pointer _),(29,.slice _ _ _),(30,.int _ _),(31,.int _ _)] ⟨U,U,U,U,U,U,O⟩ fun σ => Jg fun N15 hN15 => Kn (Jg fun N16 hN16 => Jk (Jd (Jf U) U U U (Jd (Jz (m := k) Tryz.underlying79 Tryz.sizeOf118 U U (by omega) (by omega) (by omega)) U U U (Jd (Kk (cs := [_,_,_,_,_]) Tryz.isAgg118 Tryz.sizeOf118 U U (Mv hca)) U U U ?_))))))
  refine Ka (cs := #[.int .i64 0,.string .empty,.string .empty,.slice none 0 0,.slice none 0 0]) Tryz.zeroValue118 U U (fun b10 hb10 => ?_)
  refine Jd (Jh U) U U U (Jr 9 (v := .agg #[_,_,_,_,_]) (cs' := #[_,_,_,_,_]) U U Tryz.sizeOf118 U U U U (leb U) U U (Ja (hN16 _ _ (gT [box b2 _,box b3 _,box b4 _,box b5 _,box b6 _,box b7 _,rowl _ _ _ _ _ _,gr,box _ _,box b10 _] U (Jb [(4,.pointer _),(5,.pointer _),(8,.pointer _),(9,.int _ _),(10,.pointer _),(29,.slice _ _ _),(30,.int _ _),(31,.int _ _)] ⟨U,U,U,U,U,U,U,U,O⟩ fun σ => Jg fun N17 hN17 => Jk (Jd (Kk (cs := [_,_,_,_,_]) Tryz.isAgg118 Tryz.sizeOf118 U U (Kf 9 U)) U U U ?_))))))
  refine Qk 6 8 (fun u r s G => ∃ (code : Int) (FA' : Option Addr) (fc' n : Nat) (fs' : List FileC) (g1 : Reg),u = .int .i64 code ∧ n = fs'.length ∧ TOk (fpl fs') ∧ (∀ f ∈ fs',f ∈ gs ∨ ∀ w1,g1.ok w1 → FileR w1 0 f) ∧ r = rowl fileCells w.heap.size 85 2 (.slice FA' n fc') (fs') ∧ s = box b8 (.cells #[.slice FA' n fc'] 61) ∧ G = [g1]) (Kb (vs := [.agg #[_,_,_,_,_],.pointer _]) Tryz.func53 U (by kernel_rfl) U) U U U (fun w fr1 hfr hM => make1_any _ w l[k] (hx _ (List.getElem_mem hk1)) (hco _ (List.getElem_mem hk1)) b8 gc GA gs fr1 hM (fun w1 ho f hf => hgr w1 (hfr 7 _ U (by decide) (by decide) w1 ho) f hf) hOk) U U U ?_
  rintro _ _ _ _ ⟨code,FA2,fc2,n2,fs2,g1,rfl,rfl,hOk2,hfs2,rfl,rfl,rfl⟩
  refine Jd (Jh U) U U U (Ja (hN17 _ _ (gT [box b2 _,box b3 _,box b4 _,box b5 _,box b6 _,box b7 _,rowl _ _ _ _ _ _,gr,box _ _,box b10 _,g1] U (Jb [(4,.pointer _),(5,.pointer _),(8,.pointer _),(9,.int _ _),(11,.int _ _),(29,.slice _ _ _),(30,.int _ _),(31,.int _ _)] ⟨U,U,U,U,U,U,U,U,O⟩ fun σ => Jg fun N18 hN18 => Jk (Jd (Jf U) U U U (Jd (Uj U U) U U U (Ja (hN18 _ _ ?_))))))))
  refine Jb [(4,.pointer _),(5,.pointer _),(8,.pointer _),(9,.int _ _),(11,.int _ _),(29,.slice _ _ _),(30,.int _ _),(31,.int _ _),(39,.bool _)] ⟨U,U,U,U,U,U,U,U,U,O⟩ fun σ => ?_
  refine Jt (b := _) U (fun hc39 => ?_) (fun hc39 => ?_)
  replace hc39 := odt hc39
  refine Jg fun N19 hN19 => Jk (Jd (Kd (vs := []) (cells := #[.slice none 0 0]) U bd61_) U U U (Jd (Jf U) U U U (Jd (Jf U) U U U (Jd (Kd (vs := [(0,.int _ _),(1,.int _ _)]) (cells := #[_,_]) U (Ma _ _)) U U U (Jr 2 (v := .agg #[_]) (cs' := #[_]) U U Tryz.sizeOf61 U U U U (leb U) U U (Jr 3 (v := .agg #[_,_]) (cs' := #[_,_]) U U Tryz.sizeOf33 U U U U (leb U) U U (Ja (hN19 _ _ ?_))))))))
  refine gT [box b2 _,box b3 _,box b4 _,box b5 _,box b6 _,box b7 _,rowl _ _ _ _ _ _,gr,box _ _,box b10 _,g1] U (Jb [(4,.pointer _),(5,.pointer _)] ⟨U,U,O⟩ fun σ => ?_)
  refine Ke fun w1 hM => ?_
  refine ⟨_,res2 rfl (rc 2 (cs := [_]) hM rfl rfl Tryz.isAgg61 Tryz.sizeOf61 rfl) (rc 3 (cs := [_,_]) hM rfl rfl Tryz.isAgg33 Tryz.sizeOf33 rfl),?_⟩
  exact ⟨_,_,rfl,⟨none,0,0,[],emp,⟨code,k⟩,rfl,rfl,fun h => absurd h hc39,fun _ _ _ h => (by cases h),rfl⟩,((Qa fileCells 85 2 hM).emp).dropTo 11 rfl⟩
  replace hc39 := Decidable.not_not.1 (odf hc39)
  refine Jw (hN15 _ _ (Jb [(4,.pointer _),(5,.pointer _),(8,.pointer _),(29,.slice _ _ _),(30,.int _ _),(31,.int _ _)] ⟨U,U,U,U,U,U,O⟩ fun σ => Jk (Jd (Kr U U ⟨by omega,by omega⟩) U U U (Jd (Jf U) U U U (Ja ?_)))))
  refine fin_mem _ (Um 9 7 rfl) ?_
  refine Kt ((k + 1,FA2,fc2,fs2,both gr (all_ [_,_]))) (by show l.length - (k + 1) < l.length - k; omega) (⟨by show k + 1 ≤ _; omega,hOk2,fun w1 ho f hf => ?hr⟩) ⟨U,O⟩ ⟨U,U,U,U,U,O⟩ ⟨_,U⟩
  case hr =>
   rcases hfs2 f hf with h8 | h8
   exact hgr w1 ho.1 f h8
   exact h8 w1 ho.2.2.1
  replace hc32 := odf hc32
  refine Mx ?_
  refine hN11 _ _ (Jb [(4,.pointer _),(5,.pointer _),(8,.pointer _)] ⟨U,U,U,O⟩ fun σ => Jg fun N20 hN20 => Jk (Jd (Kk (cs := [_]) Tryz.isAgg61 Tryz.sizeOf61 U U (Kf 8 U)) U U U (Jd (Kd (vs := []) (cells := #[.int .i64 0,.int .i64 0]) U Qh) U U U (Jr 2 (v := .agg #[_]) (cs' := #[_]) U U Tryz.sizeOf61 U U U U (leb U) U U (Jr 3 (v := .agg #[_,_]) (cs' := #[_,_]) U U Tryz.sizeOf33 U U U U (leb U) U U (Ja (hN20 _ _ (gT [box b2 _,box b3 _,box b4 _,box b5 _,box b6 _,box b7 _,rowl _ _ _ _ _ _,gr,box _ _] U ?_))))))))
  refine Jb [(4,.pointer _),(5,.pointer _)] ⟨U,U,O⟩ fun σ => ?_
  refine Ke fun w1 hM => ?_
  refine ⟨_,res2 rfl (rc 2 (cs := [_]) hM rfl rfl Tryz.isAgg61 Tryz.sizeOf61 rfl) (rc 3 (cs := [_,_]) hM rfl rfl Tryz.isAgg33 Tryz.sizeOf33 rfl),?_⟩
  exact ⟨_,_,rfl,⟨GA,gc,_,gs,gr,⟨0,0⟩,rfl,rfl,fun _ => ⟨htz,hOk⟩,hgr,rfl⟩,hM.sub (.cons _ (.cons _ (.cons _ (.cons _ (.cons _ (.cons _ (.cons_cons _ (.cons_cons _ (.cons _ .slnil)))))))))⟩
end Go.Proofs.YtbkameioedmlkaaGreatDoor
namespace Go.Cf
open Go.RowKit
structure Greedy {α : Type} (A B : List α) (n k : Nat) : Prop where
  hn : n ≤ A.length
  hk : k ≤ B.length
  sub : (B.drop k).Sublist (A.drop n)
  old : ∀ x ∈ B.take k, x ∈ A.take n
section
variable {α : Type} {A B : List α} {n k : Nat}
theorem Greedy.start (h : B.Sublist A) : Greedy A B 0 0 := ⟨Nat.zero_le _, Nat.zero_le _, h, fun x hx => by simp at hx⟩
theorem Greedy.hit (h : Greedy A B n k) (hn : n < A.length) (hk : k < B.length) (e : A[n] = B[k]) : Greedy A B (n + 1) (k + 1) := by
  refine ⟨hn, hk, sub_hit hn hk e h.sub, fun x hx => ?_⟩
  rw [List.take_succ_eq_append_getElem hk] at hx
  rw [List.take_succ_eq_append_getElem hn, e]
  rcases List.mem_append.1 hx with h1 | h1
  · exact List.mem_append_left _ (h.old x h1)
  · exact List.mem_append_right _ h1
theorem Greedy.skip (h : Greedy A B n k) (hn : n < A.length) (hd : A.Nodup) (ne : ∀ hk : k < B.length, A[n] ≠ B[k]) : Greedy A B (n + 1) k ∧ A[n] ∉ B := by
  have hs : (B.drop k).Sublist (A.drop (n + 1)) := by
    by_cases hk : k < B.length
    · exact sub_skip hn hk (ne hk) h.sub
    · rw [List.drop_of_length_le (by omega)]; exact List.nil_sublist _
  have hA : A = A.take n ++ A[n] :: A.drop (n + 1) := by rw [← List.drop_eq_getElem_cons hn, List.take_append_drop]
  rw [hA] at hd
  obtain ⟨h1, h2, h3⟩ := List.nodup_append.1 hd
  refine ⟨⟨hn, h.hk, hs, fun x hx => ?_⟩, fun hm => ?_⟩
  · rw [List.take_succ_eq_append_getElem hn]
    exact List.mem_append_left _ (h.old x hx)
  · rw [← List.take_append_drop k B] at hm
    rcases List.mem_append.1 hm with h4 | h4
    · exact h3 _ (h.old _ h4) _ (.head _) rfl
    · exact (List.nodup_cons.1 h2).1 (hs.subset h4)
theorem Greedy.done (h : Greedy A B n k) (hn : ¬ n < A.length) : k = B.length := by
  have h1 := sub_end hn h.sub
  have h2 := h.hk
  omega
end
def r40 (u : Int) : List Rule := [⟨⟨#[42, 42]⟩, [u]⟩]
def pathsL (fs : List FileP) : List ByteArray := fs.map FileP.path
def eqTo (fs gs : List FileP) (a : ByteArray) (ps : List ByteArray) (j : Nat) : Bool := (ps.take j).any fun p => decide (p = a) && decide (descP fs p = descP gs p)
theorem eqTo_succ {fs gs : List FileP} {a : ByteArray} {ps : List ByteArray} {j : Nat} (hj : j < ps.length) : eqTo fs gs a ps (j + 1) = (eqTo fs gs a ps j || (decide (ps[j] = a) && decide (descP fs ps[j] = descP gs ps[j]))) := by
  unfold eqTo
  rw [List.take_succ_eq_append_getElem hj, List.any_append, List.any_cons, List.any_nil, Bool.or_false]
theorem eqTo_old {fs gs : List FileP} {a : ByteArray} {ps : List ByteArray} {j : Nat} (hj : j < ps.length) (h : eqTo fs gs a ps j = true) : true = eqTo fs gs a ps (j + 1) := by rw [eqTo_succ hj, h]; rfl
theorem eqTo_no {fs gs : List FileP} {a : ByteArray} {ps : List ByteArray} {j : Nat} (hj : j < ps.length) (h : eqTo fs gs a ps j = false) (h2 : (ps[j].toList == a.toList) = false) : false = eqTo fs gs a ps (j + 1) := by
  rw [eqTo_succ hj, h, decide_eq_false (sb_ne_f h2)]; rfl
theorem eqTo_yes {fs gs : List FileP} {a : ByteArray} {ps : List ByteArray} {j : Nat} (hj : j < ps.length) (h : eqTo fs gs a ps j = false) (h2 : (ps[j].toList == a.toList) = true) : decide (descP fs ps[j] = descP gs ps[j]) = eqTo fs gs a ps (j + 1) := by
  rw [eqTo_succ hj, h, decide_eq_true (Yv h2)]; rfl
theorem r40_ok {u : Int} (h0 : 0 ≤ u) (h7 : u ≤ 7) : rulesF (r40 u) = ⟨0, 0⟩ := by
  refine rulesF_zero.2 ⟨by simp [r40], fun r hr => ?_⟩
  obtain rfl := List.mem_singleton.1 hr
  have hp : patCode ⟨#[42, 42]⟩ = 0 := by decide +kernel
  unfold ruleCode
  rw [hp]
  have h1 : uCode (-1) [u] = 0 := by
    rw [uCode, if_neg (by omega), if_neg (by omega)]; rfl
  rw [if_neg (by decide), if_neg (show ¬ 4 < ([u] : List Int).length by simp)]
  exact h1
structure L40 (fs gs : List FileP) (u : Int) : Prop where
  hf : treeF fs = ⟨0, 0⟩
  hg : TOk gs
  h0 : 0 ≤ u
  h7 : u ≤ 7
section
variable {fs gs : List FileP} {u : Int}
theorem L40.paths (h : L40 fs gs u) : ∀ j (hj : j < (pathsL fs).length), pathOk (pathsL fs)[j] = true := fun j hj => by
  obtain ⟨f, hf, he⟩ := List.mem_map.1 (List.getElem_mem hj)
  rw [← he]
  exact (Qq h.hf).ok f hf
theorem L40.len (h : L40 fs gs u) : (pathsL fs).length ≤ 24 := by unfold pathsL; rw [List.length_map]; exact (Qq h.hf).len
theorem L40.a1 (h : L40 fs gs u) : approveF fs u (pathsL fs) = ⟨0, 0⟩ := Yb h.hf (by have := h.h0; have := h.h7; omega) h.len h.paths
theorem L40.a2 (h : L40 fs gs u) : approveF gs u (pathsL fs) = ⟨0, 0⟩ := Yb (tok_tree h.hg) (by have := h.h0; have := h.h7; omega) h.len h.paths
theorem L40.ap (h : L40 fs gs u) : apprF (approveV fs u (pathsL fs)) = ⟨0, 0⟩ := by
  have hl := h.len
  have hv : approveV fs u (pathsL fs) = approveL fs u (pathsL fs) := if_pos h.a1
  rw [hv, apprF, if_neg (by rw [approveL, List.length_map]; omega)]
  refine Qy fun j hj => ?_
  show apprCode _ = 0
  have hj' : j < (pathsL fs).length := by simpa [approveL] using hj
  have he : (approveL fs u (pathsL fs))[j] = ⟨u, (pathsL fs)[j], descP fs (pathsL fs)[j]⟩ := List.getElem_map ..
  have hd := dig_ok fs (pathsL fs)[j]
  have h0 := h.h0
  have h7 := h.h7
  rw [he, apprCode, if_neg (by show ¬ (u < 0 ∨ 7 < u ∨ descP fs (pathsL fs)[j] < -1 ∨ dMod ≤ descP fs (pathsL fs)[j]); omega), if_pos (h.paths j hj')]
theorem L40.m1 (h : L40 fs gs u) : missF (r40 u) [] fs gs = ⟨0, 0⟩ := missF_ok rfl (tok_tree h.hg) h.hf (r40_ok h.h0 h.h7)
theorem L40.m2 (h : L40 fs gs u) : missF (r40 u) (approveV fs u (pathsL fs)) fs gs = ⟨0, 0⟩ := missF_ok h.ap (tok_tree h.hg) h.hf (r40_ok h.h0 h.h7)
theorem L40.sub (h : L40 fs gs u) : (missV (r40 u) (approveV fs u (pathsL fs)) fs gs).Sublist (missV (r40 u) [] fs gs) := by
  rw [missV, missV, if_pos h.m1, if_pos h.m2]
  exact miss_more (r40 u) [] (approveV fs u (pathsL fs)) fs gs
theorem L40.nodup (h : L40 fs gs u) : (missV (r40 u) [] fs gs).Nodup := by
  rw [missV, if_pos h.m1, missL]
  exact ((leafS_pair _).filter _).imp (fun hl he => by subst he; exact Wi _ hl)
theorem L40.cover (h : L40 fs gs u) {n : Nat} (hn : n < (missV (r40 u) [] fs gs).length) (hB : (missV (r40 u) [] fs gs)[n] ∉ missV (r40 u) (approveV fs u (pathsL fs)) fs gs) {j : Nat} (hj : ¬ j < (pathsL fs).length) :
    eqTo fs gs (missV (r40 u) [] fs gs)[n] (pathsL fs) j = true := by
  have hA := List.getElem_mem hn
  generalize (missV (r40 u) [] fs gs)[n] = a at hA hB
  rw [missV, if_pos h.m1] at hA
  obtain ⟨hc, hu⟩ := miss_nil.1 hA
  rw [missV, if_pos h.m2, missL] at hB
  have hd : doneB (r40 u) (approveV fs u (pathsL fs)) gs a = true := by
    cases hx : doneB (r40 u) (approveV fs u (pathsL fs)) gs a with
    | true => rfl
    | false => exact absurd (List.mem_filter.2 ⟨hc, by rw [hx]; rfl⟩) hB
  unfold doneB at hd
  rcases Bool.or_eq_true_iff.1 hd with h1 | h1
  · exact absurd (List.eq_nil_of_length_eq_zero (of_decide_eq_true h1)) hu
  · obtain ⟨x, hx, hcx⟩ := List.any_eq_true.1 h1
    rw [approveV, if_pos h.a1] at hx
    obtain ⟨p, hp, rfl⟩ := List.mem_map.1 hx
    unfold coverB at hcx
    simp only [Bool.and_eq_true, decide_eq_true_eq] at hcx
    obtain ⟨hdig, hpa, -⟩ := hcx
    unfold eqTo
    rw [List.take_of_length_le (by omega)]
    exact List.any_eq_true.2 ⟨p, hp, by rw [Bool.and_eq_true]; exact ⟨decide_eq_true hpa, decide_eq_true hdig⟩⟩
end
end Go.Cf
namespace Go.Proofs.YtbkameioedmlkaaGreatDoor
open Go.RowKit Go.Cf
set_option maxRecDepth 10000
set_option maxHeartbeats 1000000 in
theorem indexI_any (w : World) (A : Option Addr) (c : Nat) (l : List Int) (hl : Rdl w 0 1 intCells A l) (hn : l.length ≤ maxLen) (x : Int) : Calls Tryz.prog 78 #[.slice A l.length c, .int .i64 x] w fun e w' => e = .returned (.int .i64 (idxP (fun y => decide (x = y)) l)) ∧ Below w.heap.size w w' := by
 unfold maxLen at hn
 refine Kz Tryz.func78 U Tryz.ntmps78 (leb U) ?_
 refine Jb [(0,.slice _ _ _),(1,.int _ _)] ⟨U,U,O⟩ fun σ => Jg fun N1 hN1 => Jk (Jd (Jh U) U U U (Ja (hN1 _ _ (Jb [(0,.slice _ _ _),(1,.int _ _)] ⟨U,U,O⟩ fun σ => Jg fun N2 hN2 => Jg fun N3 hN3 => Jk (Jd (Kl U) U U U (Jd (Ks Tryz.underlying74 U) U U U (Jd (Jf U) U U U (Ja ?_))))))))
 refine hN3 _ _ (Jb [(0,.slice _ _ _),(1,.int _ _),(7,.int _ _),(8,.int _ _)] ⟨U,U,U,U,O⟩ fun σ => Kn ?_)
 refine Mm [(8,.int _ _)] [(0,.slice _ _ _),(1,.int _ _),(7,.int _ _)] ⟨U,O⟩ ⟨U,U,U,O⟩ fun σ => ?_
 refine Ml (G := Nat) (fun k => k ≤ l.length ∧ ∀ j (h : j < l.length),j < k → decide (x = l[j]) = false) (fun k => l.length - k) (fun k => [(8,.int .i64 (k : Int))]) (fun k => []) (0) ?h0 ⟨U,O⟩ ⟨U,U,U,O⟩ U ?round
 case h0 => exact ⟨Nat.zero_le _,fun _ _ h => absurd h (by omega)⟩
 case round =>
  intro k hφ σ
  obtain ⟨hk,hz⟩ := hφ
  refine Jg fun N4 hN4 => Jk (Jd (Me U U) U U U (Ja (hN4 _ _ (Jb [(0,.slice _ _ _),(1,.int _ _),(7,.int _ _),(8,.int _ _),(9,.bool _)] ⟨U,U,U,U,U,O⟩ fun σ => Jg fun N5 hN5 => ?_))))
  refine Jt (b := _) U (fun hc9 => ?_) (fun hc9 => ?_)
  replace hc9 := odt hc9
  have hk1 : k < l.length := by omega
  obtain ⟨ad,rfl,-,hca⟩ := hl.at_ hk1
  refine Jw (hN5 _ _ (Jb [(0,.slice _ _ _),(1,.int _ _),(7,.int _ _),(8,.int _ _)] ⟨U,U,U,U,O⟩ fun σ => Jg fun N6 hN6 => Kn (Jg fun N7 hN7 => Jk (Jd (Jf U) U U U (Jd (Jh U) U U U (Ja (hN7 _ _ (Jb [(0,.slice _ _ _),(1,.int _ _),(5,.int _ _),(7,.int _ _),(8,.int _ _)] ⟨U,U,U,U,U,O⟩ fun σ => ?_))))))))
  refine Jg fun N8 hN8 => Jk (Jd (Jf U) U U U (Jd (Kl U) U U U (Jd (Jf U) U U U (Jd (Jz (m := k) Tryz.underlying74 Tryz.sizeOf3 U U (by omega) (by omega) (by omega)) U U U (Jd (Jq Tryz.isAgg3 U (Ms (hca 0 _ U))) U U U (Jd (Mc U U) U U U (Ja (hN8 _ _ ?_))))))))
  refine Jb [(0,.slice _ _ _),(1,.int _ _),(5,.int _ _),(7,.int _ _),(8,.int _ _),(16,.bool _)] ⟨U,U,U,U,U,U,O⟩ fun σ => ?_
  refine Jt (b := _) U (fun hc16 => ?_) (fun hc16 => ?_)
  replace hc16 := odt hc16
  refine Jg fun N9 hN9 => Jk (Jd (Jf U) U U U (Jd (Jh U) U U U (Ja (hN9 _ _ (Jb [(4,.int _ _)] ⟨U,O⟩ fun σ => ?_)))))
  refine Ke fun w1 hM => ?_
  refine ⟨_,res1 rfl (rt (v := .int _ _) rfl),?_⟩
  exact ⟨by rw [idxP_hit (p := fun y => decide (x = y)) hk1 hz (decide_eq_true hc16)],hM.low⟩
  replace hc16 := odf hc16
  refine Jw (hN6 _ _ (Jb [(0,.slice _ _ _),(1,.int _ _),(7,.int _ _),(8,.int _ _)] ⟨U,U,U,U,O⟩ fun σ => Jk (Jd (Kr U U ⟨by omega,by omega⟩) U U U (Jd (Jf U) U U U (Ja ?_)))))
  refine Kt (k + 1) (by omega) (⟨by omega,fun j h hj => by rcases Nat.lt_succ_iff_lt_or_eq.1 hj with h1 | rfl; exact hz j h h1; exact decide_eq_false hc16⟩) ⟨U,O⟩ ⟨U,U,U,O⟩ ⟨_,U⟩
  replace hc9 := odf hc9
  have hI := idxP_none (p := fun y => decide (x = y)) (l := l) (fun j hj => hz j hj (by omega))
  refine Mx ?_
  refine hN2 _ _ (Jb [] trivial fun σ => Jg fun N10 hN10 => Jk (Jd (Jh U) U U U (Ja (hN10 _ _ (Jb [(4,.int _ _)] ⟨U,O⟩ fun σ => ?_)))))
  refine Ke fun w1 hM => ?_
  refine ⟨_,res1 rfl (rt (v := .int _ _) rfl),?_⟩
  exact ⟨by rw [hI],hM.low⟩
set_option maxHeartbeats 1000000 in
theorem containsI_any (w : World) (A : Option Addr) (c : Nat) (l : List Int) (hl : Rdl w 0 1 intCells A l) (hn : l.length ≤ maxLen) (x : Int) : Calls Tryz.prog 41 #[.slice A l.length c, .int .i64 x] w fun e w' => e = .returned (.bool (hasI l x)) ∧ Below w.heap.size w w' := by
 refine Kz Tryz.func41 U Tryz.ntmps41 (leb U) ?_
 refine Jb [(0,.slice _ _ _),(1,.int _ _)] ⟨U,U,O⟩ fun σ => Jg fun N1 hN1 => Jk (Jd (Ji U) U U U (Ja (hN1 _ _ (Jb [(0,.slice _ _ _),(1,.int _ _)] ⟨U,U,O⟩ fun σ => Jg fun N2 hN2 => Jk (Jd (Kl U) U U U (Jd (Jf U) U U U ?_))))))
 refine Km (Kb (vs := [.slice _ _ _,.int _ _]) Tryz.func78 U (by kernel_rfl) U) (fun w hM => indexI_any w A c l (hl.base hM) hn x) U U U ?_
 refine Jd (Wj U U) U U U (Jd (Ji U) U U U (Ja (hN2 _ _ (Jb [(4,.bool _)] ⟨U,O⟩ fun σ => ?_))))
 refine Ke fun w1 hM => ?_
 refine ⟨_,res1 rfl (rt (v := .bool _) rfl),?_⟩
 exact ⟨by rw [idxP_any]; rfl,hM.low⟩
set_option maxHeartbeats 16000000 in
theorem missing_any (w : World) (RA : Option Addr) (rcp : Nat) (rs : List RuleC) (hRS : RulesR w 0 RA rcp rs) (LA : Option Addr) (lc : Nat) (l : List Appr) (hl : Rdl w 0 3 apprCells LA l) (hll : l.length ≤ lc) (hlm : lc ≤ maxLen) (A : Option Addr) (c : Nat) (fs : List FileC) (hR : TreeR w 0 A c fs) (B : Option Addr) (d : Nat) (gs : List FileC) (hS : TreeR w 0 B d gs) : Calls Tryz.prog 13 #[.slice RA rs.length rcp, .slice LA l.length lc, .agg #[.slice A fs.length c], .agg #[.slice B gs.length d]] w fun e w' => ∃ v T', e = .returned (.tuple #[v, fv (missF (rls rs) l (fpl fs) (fpl gs))]) ∧ T' = [rowl strCells w.heap.size 9 1 (v) (missV (rls rs) l (fpl fs) (fpl gs))] ∧ Mem w T' w' := by
 have hsl := hR.sb.len
 have hsm := hR.sb.max
 have hmx : maxLen = 9223372036854775807 := rfl
 refine Kz Tryz.func13 U Tryz.ntmps13 (leb U) ?_
 refine Jb [(0,.slice _ _ _),(1,.slice _ _ _),(2,.agg #[_]),(3,.agg #[_])] ⟨U,U,U,U,O⟩ fun σ => Jg fun N1 hN1 => Jk ?_
 refine Mt (v := .agg #[_]) (cs := #[_]) U U U (fun b6 hb6 => ?_)
 refine Mt (v := .agg #[_]) (cs := #[_]) U U U (fun b7 hb7 => ?_)
 refine Jd (Kq U) U U U ?_
 refine Ka (cs := #[.int .i64 0,.int .i64 0]) Tryz.zeroValue33 U U (fun b9 hb9 => ?_)
 refine Ja (hN1 _ _ (gT [box b6 _,box b7 _,box b9 _] U (Jb [(0,.slice _ _ _),(1,.slice _ _ _),(6,.pointer _),(7,.pointer _),(9,.pointer _)] ⟨U,U,U,U,U,O⟩ fun σ => Jg fun N2 hN2 => Jk (Jd (Kl U) U U U (Jd (Kk (cs := [_]) Tryz.isAgg61 Tryz.sizeOf61 U U (Kf 1 U)) U U U ?_)))))
 refine My (fun v T' => ∃ lo u,v = .tuple #[u,fv (validF l (fpl gs))] ∧ w.heap.size ≤ lo ∧ T' = [rowl boolCells lo 4 1 (u) (validV l (fpl gs))]) (Kb (vs := [.slice _ _ _,.agg #[_]]) Tryz.func12 U (by kernel_rfl) U) (fun w hM => by have hc := valid_any w LA lc l (hl.base hM) hll hlm B d gs (hS.base hM); exact hc.mono fun _ _ ⟨v,T1,h1,h2,h3⟩ => ⟨_,T1,h1,⟨_,v,rfl,hM.low.size,h2⟩,h3⟩) U U U ?_
 rintro _ _ ⟨lo24,u24,rfl,hlo24,rfl⟩
 refine Ky (fun w hM => Mz (hM.ok _ (List.mem_of_getElem? (i := 3) U))) ?_
 rintro ⟨A24,c24,rfl,hc24,hm24,hn24⟩
 refine Ky (Φ := 0 < (validV l (fpl gs)).length → ∃ g,A24 = some ⟨g,0,none⟩) (fun w hM h9 => Xn (hM.ok _ (List.mem_of_getElem? (i := 3) U)) h9) ?_
 intro hg24
 refine Jd (Ju (v := .tuple #[.slice A24 _ c24,.agg #[_,_]]) U) U U U (Jd (Qz U U) U U U (Jd (Mw (v := .agg #[_,_]) U U) U U U ?_))
 refine Ka (cs := #[.int .i64 0,.int .i64 0]) Tryz.zeroValue33 U U (fun b11 hb11 => ?_)
 refine Jd (Kq U) U U U (Jr 4 (v := .agg #[_,_]) (cs' := #[_,_]) U U Tryz.sizeOf33 U U U U (leb U) U U (Ja (hN2 _ _ (gT [box b6 _,box b7 _,box b9 _,rowl _ _ _ _ _ _,box b11 _] U (Jb [(0,.slice _ _ _),(1,.slice _ _ _),(6,.pointer _),(7,.pointer _),(9,.pointer _),(10,.slice _ _ _),(11,.pointer _)] ⟨U,U,U,U,U,U,U,O⟩ fun σ => Jg fun N3 hN3 => Jg fun N4 hN4 => Jk (Jd (Kk (cs := [_,_]) Tryz.isAgg33 Tryz.sizeOf33 U U (Kf 4 U)) U U U (Jd (Kd (vs := []) (cells := #[.int .i64 0,.int .i64 0]) U Qh) U U U (Jd (Uk (vx := .agg #[_,_]) (vy := .agg #[_,_]) U U (fun w => eg33 _ _ _ _ _ w) (fun w => ne33 _ _ _ _ w)) U U U ?_))))))))
 refine Ja (hN4 _ _ (Jb [(0,.slice _ _ _),(1,.slice _ _ _),(6,.pointer _),(7,.pointer _),(9,.pointer _),(10,.slice _ _ _),(11,.pointer _),(29,.bool _)] ⟨U,U,U,U,U,U,U,U,O⟩ fun σ => ?_))
 refine Jt (b := _) U (fun hc29 => ?_) (fun hc29 => ?_)
 replace hc29 := Qe.1 hc29
 have hF : missF (rls rs) l (fpl fs) (fpl gs) = validF l (fpl gs) := missF_1 rfl hc29
 refine Jg fun N5 hN5 => ?_
 refine Qr [] [(2,room b9 33 2)] (by kernel_rfl) ?_
 refine Jv 0 (TK := [box b6 _,box b7 _,room b9 33 2,rowl _ _ _ _ _ _,box b11 _]) U (by kernel_rfl) (by kernel_rfl) (by kernel_rfl) #[false,true,false] (by kernel_rfl) U (Kk (cs := [_,_]) Tryz.isAgg33 Tryz.sizeOf33 U U (Kf 4 U)) U U U (Kj 2 U U) (listed' := #[true,false,false]) U ?_
 refine Jv 1 (TK := [box b6 _,box b7 _,room b9 33 2,rowl _ _ _ _ _ _,box b11 _]) U (by kernel_rfl) (by kernel_rfl) (by kernel_rfl) #[true,false,false] (by kernel_rfl) U (Kq U) U U U (Kj 2 U U) (listed' := #[true,true,false]) U ?_
 refine Mr 2 (k' := 0) (listed' := #[true,true,true]) (by kernel_rfl) U U U ?_
 refine Jr 2 (v := .agg #[_,_]) (cs' := #[_,_]) U U Tryz.sizeOf33 U U U U (leb U) U U (Ja ?_)
 refine Mo (TK := [box b6 _,box b7 _,room b9 33 2,rowl _ _ _ _ _ _,box b11 _]) U (Kj 2 U U) ?_
 refine Qd (by kernel_rfl) ?_
 refine hN5 _ _ (gT [box b6 _,box b7 _,box b9 _,rowl _ _ _ _ _ _,box b11 _] U (Jb [(8,.slice _ _ _),(9,.pointer _)] ⟨U,U,O⟩ fun σ => ?_))
 refine Ke fun w1 hM => ?_
 refine ⟨_,res2 rfl (rt (v := .slice _ _ _) rfl) (rc 2 (cs := [_,_]) hM rfl rfl Tryz.isAgg33 Tryz.sizeOf33 rfl),?_⟩
 exact ⟨_,_,by rw [hF],by rw [missV,if_neg (by rw [hF]; exact hc29)]; rfl,(Qa strCells 9 1 hM).dropTo 5 rfl⟩
 replace hc29 := Qf.1 hc29
 have hvz := hc29
 obtain ⟨-,haz,htz⟩ := Zn (by rw [hvz])
 have hvl := validV_len hvz
 have h40 := apprF_len haz
 have v2 := Qq htz
 refine Jw (hN3 _ _ (Jb [(0,.slice _ _ _),(1,.slice _ _ _),(6,.pointer _),(7,.pointer _),(9,.pointer _),(10,.slice _ _ _)] ⟨U,U,U,U,U,U,O⟩ fun σ => Jg fun N6 hN6 => Jg fun N7 hN7 => Jk (Jd (Kk (cs := [_]) Tryz.isAgg61 Tryz.sizeOf61 U U (Kf 0 U)) U U U ?_)))
 refine Km (Kb (vs := [.agg #[_],_]) Tryz.func36 U (by kernel_rfl) U) (fun w hM => Wn w A c fs (hR.base hM) (-3)) U U U ?_
 refine Ka (cs := #[.int .i64 0,.int .i64 0]) Tryz.zeroValue33 U U (fun b12 hb12 => ?_)
 refine Jr 5 (v := .agg #[_,_]) (cs' := #[_,_]) U U Tryz.sizeOf33 U U U U (leb U) U U (Ja (hN7 _ _ (gT [box b6 _,box b7 _,box b9 _,rowl _ _ _ _ _ _,box b11 _,box b12 _] U (Jb [(0,.slice _ _ _),(1,.slice _ _ _),(6,.pointer _),(7,.pointer _),(9,.pointer _),(10,.slice _ _ _),(12,.pointer _)] ⟨U,U,U,U,U,U,U,O⟩ fun σ => Jg fun N8 hN8 => Jk (Jd (Kk (cs := [_,_]) Tryz.isAgg33 Tryz.sizeOf33 U U (Kf 5 U)) U U U (Jd (Kd (vs := []) (cells := #[.int .i64 0,.int .i64 0]) U Qh) U U U (Jd (Uk (vx := .agg #[_,_]) (vy := .agg #[_,_]) U U (fun w => eg33 _ _ _ _ _ w) (fun w => ne33 _ _ _ _ w)) U U U (Ja ?_))))))))
 refine hN8 _ _ (Jb [(0,.slice _ _ _),(1,.slice _ _ _),(6,.pointer _),(7,.pointer _),(9,.pointer _),(10,.slice _ _ _),(12,.pointer _),(35,.bool _)] ⟨U,U,U,U,U,U,U,U,O⟩ fun σ => ?_)
 refine Jt (b := _) U (fun hc35 => ?_) (fun hc35 => ?_)
 replace hc35 := Qe.1 hc35
 have hF : missF (rls rs) l (fpl fs) (fpl gs) = secondF (treeF (fpl fs)) (-3) := missF_2 hvz hc35
 refine Jg fun N9 hN9 => ?_
 refine Qr [] [(2,room b9 33 2)] (by kernel_rfl) ?_
 refine Jv 0 (TK := [box b6 _,box b7 _,room b9 33 2,rowl _ _ _ _ _ _,box b11 _,box b12 _]) U (by kernel_rfl) (by kernel_rfl) (by kernel_rfl) #[false,true,false] (by kernel_rfl) U (Kk (cs := [_,_]) Tryz.isAgg33 Tryz.sizeOf33 U U (Kf 5 U)) U U U (Kj 2 U U) (listed' := #[true,false,false]) U ?_
 refine Jv 1 (TK := [box b6 _,box b7 _,room b9 33 2,rowl _ _ _ _ _ _,box b11 _,box b12 _]) U (by kernel_rfl) (by kernel_rfl) (by kernel_rfl) #[true,false,false] (by kernel_rfl) U (Kq U) U U U (Kj 2 U U) (listed' := #[true,true,false]) U ?_
 refine Mr 2 (k' := 0) (listed' := #[true,true,true]) (by kernel_rfl) U U U ?_
 refine Jr 2 (v := .agg #[_,_]) (cs' := #[_,_]) U U Tryz.sizeOf33 U U U U (leb U) U U (Ja ?_)
 refine Mo (TK := [box b6 _,box b7 _,room b9 33 2,rowl _ _ _ _ _ _,box b11 _,box b12 _]) U (Kj 2 U U) ?_
 refine Qd (by kernel_rfl) ?_
 refine hN9 _ _ (gT [box b6 _,box b7 _,box b9 _,rowl _ _ _ _ _ _,box b11 _,box b12 _] U (Jb [(8,.slice _ _ _),(9,.pointer _)] ⟨U,U,O⟩ fun σ => ?_))
 refine Ke fun w1 hM => ?_
 refine ⟨_,res2 rfl (rt (v := .slice _ _ _) rfl) (rc 2 (cs := [_,_]) hM rfl rfl Tryz.isAgg33 Tryz.sizeOf33 rfl),?_⟩
 exact ⟨_,_,by rw [hF],by rw [missV,if_neg (by rw [hF]; exact hc35)]; rfl,(Qa strCells 9 1 hM).dropTo 6 rfl⟩
 replace hc35 := Qf.1 hc35
 have hbz : treeF (fpl fs) = ⟨0,0⟩ := sec_ok hc35 (by decide)
 have v1 := Qq hbz
 have hFS : missF (rls rs) l (fpl fs) (fpl gs) = secondF (rulesF (rls rs)) (-4) := missF_3 hvz hbz
 refine Jw (hN6 _ _ (Jb [(0,.slice _ _ _),(1,.slice _ _ _),(6,.pointer _),(7,.pointer _),(9,.pointer _),(10,.slice _ _ _)] ⟨U,U,U,U,U,U,O⟩ fun σ => Jg fun N10 hN10 => Jg fun N11 hN11 => Jk (Jd (Kl U) U U U ?_)))
 refine Km (Kb (vs := [.slice _ _ _]) Tryz.func38 U (by kernel_rfl) U) (fun w hM => ownValidate_any w RA rcp rs (RulesR.lasts.base hRS hM)) U U U ?_
 refine Ka (cs := #[.int .i64 0,.int .i64 0]) Tryz.zeroValue33 U U (fun b13 hb13 => ?_)
 refine Jr 6 (v := .agg #[_,_]) (cs' := #[_,_]) U U Tryz.sizeOf33 U U U U (leb U) U U (Ja (hN11 _ _ (gT [box b6 _,box b7 _,box b9 _,rowl _ _ _ _ _ _,box b11 _,box b12 _,box b13 _] U (Jb [(0,.slice _ _ _),(1,.slice _ _ _),(6,.pointer _),(7,.pointer _),(9,.pointer _),(10,.slice _ _ _),(13,.pointer _)] ⟨U,U,U,U,U,U,U,O⟩ fun σ => Jg fun N12 hN12 => Jk (Jd (Kk (cs := [_,_]) Tryz.isAgg33 Tryz.sizeOf33 U U (Kf 6 U)) U U U (Jd (Kd (vs := []) (cells := #[.int .i64 0,.int .i64 0]) U Qh) U U U (Jd (Uk (vx := .agg #[_,_]) (vy := .agg #[_,_]) U U (fun w => eg33 _ _ _ _ _ w) (fun w => ne33 _ _ _ _ w)) U U U (Ja ?_))))))))
 refine hN12 _ _ (Jb [(0,.slice _ _ _),(1,.slice _ _ _),(6,.pointer _),(7,.pointer _),(9,.pointer _),(10,.slice _ _ _),(13,.pointer _),(41,.bool _)] ⟨U,U,U,U,U,U,U,U,O⟩ fun σ => ?_)
 refine Jt (b := _) U (fun hc41 => ?_) (fun hc41 => ?_)
 replace hc41 := Qe.1 hc41
 have hF : missF (rls rs) l (fpl fs) (fpl gs) = ⟨(rulesF (rls rs)).code,-4⟩ := by rw [hFS,secondF,if_pos hc41]
 have hFn : missF (rls rs) l (fpl fs) (fpl gs) ≠ ⟨0,0⟩ := by rw [hF]; exact fun h9 => absurd (congrArg Fault.index h9) (show ¬ ((-4 : Int) = 0) by decide)
 refine Jg fun N13 hN13 => ?_
 refine Qr [] [(2,room b9 33 2)] (by kernel_rfl) ?_
 refine Jv 0 (TK := [box b6 _,box b7 _,room b9 33 2,rowl _ _ _ _ _ _,box b11 _,box b12 _,box b13 _]) U (by kernel_rfl) (by kernel_rfl) (by kernel_rfl) #[false,false,false,true,false] (by kernel_rfl) U (Jc Uo U) U U U (Kj 2 U U) (listed' := #[true,false,false,false,false]) U ?_
 refine Jv 1 (TK := [box b6 _,box b7 _,room b9 33 2,rowl _ _ _ _ _ _,box b11 _,box b12 _,box b13 _]) U (by kernel_rfl) (by kernel_rfl) (by kernel_rfl) #[true,false,false,true,false] (by kernel_rfl) U (Jq Tryz.isAgg3 U (Jm 6 U U)) U U U (Kj 2 U U) (listed' := #[true,true,false,false,false]) U ?_
 refine Jv 2 (TK := [box b6 _,box b7 _,room b9 33 2,rowl _ _ _ _ _ _,box b11 _,box b12 _,box b13 _]) U (by kernel_rfl) (by kernel_rfl) (by kernel_rfl) #[true,true,false,true,false] (by kernel_rfl) U (Kd (vs := [(0,.int _ _),(1,_)]) (cells := #[_,_]) U (Ma _ _)) U U U (Kj 2 U U) (listed' := #[true,true,true,false,false]) U ?_
 refine Jv 3 (TK := [box b6 _,box b7 _,room b9 33 2,rowl _ _ _ _ _ _,box b11 _,box b12 _,box b13 _]) U (by kernel_rfl) (by kernel_rfl) (by kernel_rfl) #[true,true,true,false,false] (by kernel_rfl) U (Kq U) U U U (Kj 2 U U) (listed' := #[true,true,true,true,false]) U ?_
 refine Mr 4 (k' := 0) (listed' := #[true,true,true,true,true]) (by kernel_rfl) U U U ?_
 refine Jr 2 (v := .agg #[_,_]) (cs' := #[_,_]) U U Tryz.sizeOf33 U U U U (leb U) U U (Ja ?_)
 refine Mo (TK := [box b6 _,box b7 _,room b9 33 2,rowl _ _ _ _ _ _,box b11 _,box b12 _,box b13 _]) U (Kj 2 U U) ?_
 refine Qd (by kernel_rfl) ?_
 refine hN13 _ _ (gT [box b6 _,box b7 _,box b9 _,rowl _ _ _ _ _ _,box b11 _,box b12 _,box b13 _] U (Jb [(8,.slice _ _ _),(9,.pointer _)] ⟨U,U,O⟩ fun σ => ?_))
 refine Ke fun w1 hM => ?_
 refine ⟨_,res2 rfl (rt (v := .slice _ _ _) rfl) (rc 2 (cs := [_,_]) hM rfl rfl Tryz.isAgg33 Tryz.sizeOf33 rfl),?_⟩
 exact ⟨_,_,by rw [hF],by rw [missV,if_neg hFn]; rfl,(Qa strCells 9 1 hM).dropTo 7 rfl⟩
 replace hc41 := Qf.1 hc41
 have hrz := hc41
 have hF : missF (rls rs) l (fpl fs) (fpl gs) = ⟨0,0⟩ := by rw [hFS,hrz]; rfl
 have hcn : (chgL (fpl fs) (fpl gs)).length ≤ 48 := by have h8 := chg_len (a := fpl fs) (b := fpl gs); have h7 := v1.len; have h6 := v2.len; omega
 refine Jw (hN10 _ _ (Jb [(0,.slice _ _ _),(1,.slice _ _ _),(6,.pointer _),(7,.pointer _),(9,.pointer _),(10,.slice _ _ _)] ⟨U,U,U,U,U,U,O⟩ fun σ => Jg fun N14 hN14 => Jk (Jd (Kq U) U U U (Ja (hN14 _ _ (Jb [(0,.slice _ _ _),(1,.slice _ _ _),(6,.pointer _),(7,.pointer _),(9,.pointer _),(10,.slice _ _ _),(14,.slice _ _ _)] ⟨U,U,U,U,U,U,U,O⟩ fun σ => Jg fun N15 hN15 => Jg fun N16 hN16 => Jk (Jd (Kk (cs := [_]) Tryz.isAgg61 Tryz.sizeOf61 U U (Kf 0 U)) U U U (Jd (Kk (cs := [_]) Tryz.isAgg61 Tryz.sizeOf61 U U (Kf 1 U)) U U U ?_))))))))
 refine My (fun v T' => ∃ lo,w.heap.size ≤ lo ∧ T' = [rowl strCells lo 9 1 (v) (chgL (fpl fs) (fpl gs))]) (Kb (vs := [.agg #[_],.agg #[_]]) Tryz.func39 U (by kernel_rfl) U) (fun w hM => by have hc := changed_any w A c fs (hR.base hM) v1 B d gs (hS.base hM) v2; exact hc.mono fun _ _ ⟨v,T1,h1,h2,h3⟩ => ⟨v,T1,h1,⟨_,hM.low.size,h2⟩,h3⟩) U U U ?_
 rintro v47 _ ⟨lo47,hlo47,rfl⟩
 refine Ky (fun w hM => Mz (hM.ok _ (List.mem_of_getElem? (i := 7) U))) ?_
 rintro ⟨A47,c47,rfl,hc47,hm47,hn47⟩
 refine Ky (Φ := 0 < (chgL (fpl fs) (fpl gs)).length → ∃ g,A47 = some ⟨g,0,none⟩) (fun w hM h9 => Xn (hM.ok _ (List.mem_of_getElem? (i := 7) U)) h9) ?_
 intro hg47
 refine Jd (Ks Tryz.underlying22 U) U U U (Jd (Jf U) U U U (Ja (hN16 _ _ (gT [box b6 _,box b7 _,box b9 _,rowl _ _ _ _ _ _,box b11 _,box b12 _,box b13 _,rowl _ _ _ _ _ _] U (Jb [(0,.slice _ _ _),(1,.slice _ _ _),(9,.pointer _),(10,.slice _ _ _),(14,.slice _ _ _),(47,.slice A47 _ c47),(48,.int _ _),(49,.int _ _)] ⟨U,U,U,U,U,U,U,U,O⟩ fun σ => Kn ?_)))))
 refine Xw strCells 9 1 ?_
 refine Mm [(14,.slice _ _ _),(49,.int _ _)] [(0,.slice _ _ _),(1,.slice _ _ _),(9,.pointer _),(10,.slice _ _ _),(47,.slice A47 _ c47),(48,.int _ _)] ⟨U,U,O⟩ ⟨U,U,U,U,U,U,O⟩ fun σ => ?_
 refine Ml (G := Nat × Option Addr × Nat) (fun (k,Ov,ov) => k ≤ (chgL (fpl fs) (fpl gs)).length) (fun (k,Ov,ov) => (chgL (fpl fs) (fpl gs)).length - k) (fun (k,Ov,ov) => [(14,.slice Ov (missTo (rls rs) l (fpl fs) (fpl gs) k).length ov),(49,.int .i64 (k : Int))]) (fun (k,Ov,ov) => [(8,rowl strCells w.heap.size 9 1 (.slice Ov (missTo (rls rs) l (fpl fs) (fpl gs) k).length ov) (missTo (rls rs) l (fpl fs) (fpl gs) k))]) ((0,none,0)) ?h0 ⟨U,U,O⟩ ⟨U,U,U,U,U,U,O⟩ U ?round
 case h0 => exact Nat.zero_le _
 case round =>
  rintro ⟨k,Ov,ov⟩ hφ σ
  have hk : k ≤ (chgL (fpl fs) (fpl gs)).length := hφ
  have hml := missTo_len (rls rs) l (fpl fs) (fpl gs) k
  refine gT [box b6 _,box b7 _,box b9 _,rowl _ _ _ _ _ _,box b11 _,box b12 _,box b13 _,rowl _ _ _ _ _ _,rowl _ _ _ _ _ _] U (Jg fun N17 hN17 => Jk (Jd (Me U U) U U U (Ja (hN17 _ _ (Jb [(0,.slice _ _ _),(1,.slice _ _ _),(9,.pointer _),(10,.slice _ _ _),(14,.slice Ov _ ov),(47,.slice A47 _ c47),(48,.int _ _),(49,.int _ _),(50,.bool _)] ⟨U,U,U,U,U,U,U,U,U,O⟩ fun σ => Jg fun N18 hN18 => ?_)))))
  refine Jt (b := _) U (fun hc50 => ?_) (fun hc50 => ?_)
  replace hc50 := odt hc50
  have hk1 : k < (chgL (fpl fs) (fpl gs)).length := by omega
  obtain ⟨g47,rfl⟩ := hg47 (by omega)
  have hpk : pathOk (chgL (fpl fs) (fpl gs))[k] = true := chg_ok hbz htz (List.getElem_mem hk1)
  refine Jw (hN18 _ _ (Jb [(0,.slice _ _ _),(1,.slice _ _ _),(9,.pointer _),(10,.slice _ _ _),(14,.slice Ov _ ov),(47,.slice (some ⟨g47,0,none⟩) _ c47),(48,.int _ _),(49,.int _ _)] ⟨U,U,U,U,U,U,U,U,O⟩ fun σ => Jg fun N19 hN19 => Kn (Jg fun N20 hN20 => Jk (Jd (Jz (m := k) Tryz.underlying22 Tryz.sizeOf9 U U (by omega) (by omega) (by omega)) U U U ?_))))
  refine Jd (Jq Tryz.isAgg9 U (Mj 7 (f := strCells) (l := chgL (fpl fs) (fpl gs)) U U (fun _ => U) (List.getElem?_eq_getElem hk1) 0 _ U)) U U U ?_
  refine Jd (Ul U) U U U (Ja (hN20 _ _ (Jb [(0,.slice _ _ _),(1,.slice _ _ _),(9,.pointer _),(10,.slice _ _ _),(14,.slice Ov _ ov),(16,.string _),(47,.slice (some ⟨g47,0,none⟩) _ c47),(48,.int _ _),(49,.int _ _)] ⟨U,U,U,U,U,U,U,U,U,O⟩ fun σ => Jg fun N21 hN21 => Jk (Jd (Kl U) U U U (Jd (Ku U) U U U ?_)))))
  refine My (fun v T' => ∃ lo,w.heap.size ≤ lo ∧ T' = [rowl intCells lo 3 1 (v) (findU (rls rs) (chgL (fpl fs) (fpl gs))[k])]) (Kb (vs := [.slice _ _ _,.string _]) Tryz.func40 U (by kernel_rfl) U) (fun w hM => (find_any w RA rcp rs (RulesR.lasts.base hRS hM) (chgL (fpl fs) (fpl gs))[k] (fun a ha => Nat.le_trans (patFault_size (Ye (Xs hrz a.pl (List.mem_map.2 ⟨a,ha,U⟩))).1) (by decide)) (Nat.le_trans (Qi hpk) (by decide)) (fun a ha => Nat.le_trans (Ye (Xs hrz a.pl (List.mem_map.2 ⟨a,ha,U⟩))).2.1 (by decide))).mono fun _ _ ⟨v,T1,h1,h2,h3⟩ => ⟨v,T1,h1,⟨_,hM.low.size,h2⟩,h3⟩) U U U ?_
  rintro v55 _ ⟨lo55,hlo55,rfl⟩
  refine Ky (fun w hM => Mz (hM.ok _ (List.mem_of_getElem? (i := 9) U))) ?_
  rintro ⟨A55,c55,rfl,hc55,hm55,hn55⟩
  refine Yk _ (Wg 9 U hlo55) ?_
  refine Jd (Kx (v := .slice A55 _ c55) U) U U U (Ja (hN21 _ _ (gT [box b6 _,box b7 _,box b9 _,rowl _ _ _ _ _ _,box b11 _,box b12 _,box b13 _,rowl _ _ _ _ _ _,rowl _ _ _ _ _ _,rowl _ _ _ _ _ _] U (Jb [(0,.slice _ _ _),(1,.slice _ _ _),(9,.pointer _),(10,.slice _ _ _),(14,.slice Ov _ ov),(16,.string _),(17,.slice A55 _ c55),(47,.slice (some ⟨g47,0,none⟩) _ c47),(48,.int _ _),(49,.int _ _)] ⟨U,U,U,U,U,U,U,U,U,U,O⟩ fun σ => Jg fun N22 hN22 => Jk (Jd (Ju (v := .slice A55 _ c55) U) U U U (Jd (Ks Tryz.underlying74 U) U U U (Jd (Mc U U) U U U (Jd (Ji U) U U U ?_))))))))
  refine Ja (hN22 _ _ (Jb [(0,.slice _ _ _),(1,.slice _ _ _),(9,.pointer _),(10,.slice _ _ _),(14,.slice Ov _ ov),(16,.string _),(17,.slice A55 _ c55),(18,.bool _),(47,.slice (some ⟨g47,0,none⟩) _ c47),(48,.int _ _),(49,.int _ _)] ⟨U,U,U,U,U,U,U,U,U,U,U,O⟩ fun σ => Jg fun N23 hN23 => Jg fun N24 hN24 => Jk (Jd (Kl U) U U U (Jd (Ks Tryz.underlying58 U) U U U (Jd (Jf U) U U U (Ja (hN24 _ _ (Jb [(0,.slice _ _ _),(1,.slice _ _ _),(9,.pointer _),(10,.slice _ _ _),(14,.slice Ov _ ov),(16,.string _),(17,.slice A55 _ c55),(18,.bool _),(47,.slice (some ⟨g47,0,none⟩) _ c47),(48,.int _ _),(49,.int _ _),(59,.slice _ _ _),(60,.int _ _),(61,.int _ _)] ⟨U,U,U,U,U,U,U,U,U,U,U,U,U,U,O⟩ fun σ => ?_))))))))
  refine Kn ?_
  refine Mm [(18,.bool _),(61,.int _ _)] [(0,.slice _ _ _),(1,.slice _ _ _),(9,.pointer _),(10,.slice _ _ _),(14,.slice Ov _ ov),(16,.string _),(17,.slice A55 _ c55),(47,.slice (some ⟨g47,0,none⟩) _ c47),(48,.int _ _),(49,.int _ _),(59,.slice _ _ _),(60,.int _ _)] ⟨U,U,O⟩ ⟨U,U,U,U,U,U,U,U,U,U,U,U,O⟩ fun σ => ?_
  refine Ml (G := Nat) (fun j => j ≤ l.length) (fun j => l.length - j) (fun j => [(18,.bool (doneTo (rls rs) l (fpl gs) (chgL (fpl fs) (fpl gs))[k] j)),(61,.int .i64 (j : Int))]) (fun j => []) (0) ?h0 ⟨(congrArg Value.bool doneTo_zero),U,trivial⟩ ⟨U,U,U,U,U,U,U,U,U,U,U,U,O⟩ U ?round
  case h0 => exact Nat.zero_le _
  case round =>
   intro j hφ σ
   have hj : j ≤ l.length := hφ
   refine Jg fun N25 hN25 => Jk (Jd (Me U U) U U U (Ja (hN25 _ _ (Jb [(0,.slice _ _ _),(1,.slice _ _ _),(9,.pointer _),(10,.slice _ _ _),(14,.slice Ov _ ov),(16,.string _),(17,.slice A55 _ c55),(18,.bool _),(47,.slice (some ⟨g47,0,none⟩) _ c47),(48,.int _ _),(49,.int _ _),(59,.slice _ _ _),(60,.int _ _),(61,.int _ _),(62,.bool _)] ⟨U,U,U,U,U,U,U,U,U,U,U,U,U,U,U,O⟩ fun σ => Jg fun N26 hN26 => ?_))))
   refine Jt (b := _) U (fun hc62 => ?_) (fun hc62 => ?_)
   replace hc62 := odt hc62
   have hj1 : j < l.length := by omega
   obtain ⟨ad,rfl,-,hca⟩ := hl.at_ hj1
   obtain ⟨g24,rfl⟩ := hg24 (by omega)
   refine Jw (hN26 _ _ (Jb [(0,.slice _ _ _),(1,.slice _ _ _),(9,.pointer _),(10,.slice _ _ _),(14,.slice Ov _ ov),(16,.string _),(17,.slice A55 _ c55),(18,.bool _),(47,.slice (some ⟨g47,0,none⟩) _ c47),(48,.int _ _),(49,.int _ _),(59,.slice _ _ _),(60,.int _ _),(61,.int _ _)] ⟨U,U,U,U,U,U,U,U,U,U,U,U,U,U,O⟩ fun σ => Jg fun N27 hN27 => Kn (Jg fun N28 hN28 => Jk (Jd (Jf U) U U U (Jd (Jz (m := j) Tryz.underlying58 Tryz.sizeOf70 U U (by omega) (by omega) (by omega)) U U U (Jd (Kk (cs := [_,_,_]) Tryz.isAgg70 Tryz.sizeOf70 U U (Mv hca)) U U U ?_))))))
   refine Ka (cs := #[.int .i64 0,.string .empty,.int .i64 0]) Tryz.zeroValue70 U U (fun b20 hb20 => ?_)
   refine Jd (Jh U) U U U (Jr 10 (v := .agg #[_,_,_]) (cs' := #[_,_,_]) U U Tryz.sizeOf70 U U U U (leb U) U U (Ja (hN28 _ _ (gT [box b6 _,box b7 _,box b9 _,rowl _ _ _ _ _ _,box b11 _,box b12 _,box b13 _,rowl _ _ _ _ _ _,rowl _ _ _ _ _ _,rowl _ _ _ _ _ _,box b20 _] U (Jb [(0,.slice _ _ _),(1,.slice _ _ _),(9,.pointer _),(10,.slice _ _ _),(14,.slice Ov _ ov),(16,.string _),(17,.slice A55 _ c55),(18,.bool _),(19,.int _ _),(20,.pointer _),(47,.slice (some ⟨g47,0,none⟩) _ c47),(48,.int _ _),(49,.int _ _),(59,.slice _ _ _),(60,.int _ _),(61,.int _ _)] ⟨U,U,U,U,U,U,U,U,U,U,U,U,U,U,U,U,O⟩ fun σ => Jk (Jd (Jn U) U U U (Jd (Jn U) U U U ?_)))))))
   refine Kh (want := false) U U U U U U (fun hg67 => ?_) (fun hg67 => ?_)
   have hd0 : doneTo (rls rs) l (fpl gs) (chgL (fpl fs) (fpl gs))[k] j = false := hg67
   refine Jd (Je (Kl U)) U U U (Js U U U U hg67 (Jd (Je (Jf U)) U U U (Js U U U U hg67 (Jd (Je (Jz (m := j) Tryz.underlying46 Tryz.sizeOf4 U U (by omega) (by omega) (by omega))) U U U (Js U U U U hg67 (Jd (Je (Jq Tryz.isAgg4 U (Mj 3 (f := boolCells) (l := validV l (fpl gs)) U U (fun _ => U) (validV_get hvz hj1) 0 _ U))) U U U (Js U U U U hg67 (Jd (Je (Jn U)) U U U ?_))))))))
   refine Kh (want := true) U U U U U U (fun hg72 => ?_) (fun hg72 => ?_)
   have hk72 : decide (l[j].dig = descP (fpl gs) l[j].path) = true := hg72
   refine Jd (Je (Jc fa70_1 U)) U U U (Js U U U U hg72 (Jd (Je (Jq Tryz.isAgg9 U (Jm 10 U U))) U U U (Js U U U U hg72 (Jd (Je (Ku U)) U U U (Js U U U U hg72 (Jd (Je (Ur U U)) U U U (Js U U U U hg67 (Jd (Je (Jo U hg72 U)) U U U ?_))))))))
   refine Js U U U U hg67 (Jd (Je (Jn U)) U U U ?_)
   refine Kh (want := true) U U U U U U (fun hg78 => ?_) (fun hg78 => ?_)
   have hk78 : (l[j].path.toList == ((chgL (fpl fs) (fpl gs))[k]).toList) = true := hg78
   refine Jd (Je (Ju (v := .slice A55 _ c55) U)) U U U (Js U U U U hg78 (Jd (Je (Jc fa70_0 U)) U U U (Js U U U U hg78 (Jd (Je (Jq Tryz.isAgg3 U (Jm 10 U U))) U U U (Js U U U U hg78 ?_)))))
   refine Km (Kb (vs := [.slice A55 _ c55,.int _ _]) Tryz.func41 U (by kernel_rfl) U) (fun w hM => by have h1 : Rdl w 0 1 intCells A55 (findU (rls rs) (chgL (fpl fs) (fpl gs))[k]) := ((Qw (f := intCells) (fun _ => rfl) (hM.ok _ (List.mem_of_getElem? (i := 9) rfl))).mono (Nat.zero_le _)); have hc := containsI_any w A55 c55 (findU (rls rs) (chgL (fpl fs) (fpl gs))[k]) h1 (Nat.le_trans hc55 hm55) l[j].user; exact hc) U U U ?_
   refine Js U U U U hg67 (Jd (Je (Jo U hg78 U)) U U U (Jd (Jp U hg67 U) U U U (Jd (Ji U) U U U (Ja (hN27 _ _ (Jb [(0,.slice _ _ _),(1,.slice _ _ _),(9,.pointer _),(10,.slice _ _ _),(14,.slice Ov _ ov),(16,.string _),(17,.slice A55 _ c55),(18,.bool _),(47,.slice (some ⟨g47,0,none⟩) _ c47),(48,.int _ _),(49,.int _ _),(59,.slice _ _ _),(60,.int _ _),(61,.int _ _)] ⟨U,U,U,U,U,U,U,U,U,U,U,U,U,U,O⟩ fun σ => Jk (Jd (Kr U U ⟨by omega,by omega⟩) U U U (Jd (Jf U) U U U ?_))))))))
   refine Ja ?_
   refine Kt (j + 1) (by omega) (show j + 1 ≤ _ by omega) ⟨(congrArg Value.bool (done_yes hj1 hd0 hk72 hk78)),U,trivial⟩ ⟨U,U,U,U,U,U,U,U,U,U,U,U,O⟩ ⟨_,U⟩
   have hk78 : (l[j].path.toList == ((chgL (fpl fs) (fpl gs))[k]).toList) = false := hg78
   refine Jj U U U U hg78 U U (Jj U U U U hg78 U U (Jj U U U U hg78 U U (Js U U U U hg67 (Jd (Je (Jp U hg78 U)) U U U (Jd (Jp U hg67 U) U U U (Jd (Ji U) U U U (Ja (hN27 _ _ ?_))))))))
   refine Jb [(0,.slice _ _ _),(1,.slice _ _ _),(9,.pointer _),(10,.slice _ _ _),(14,.slice Ov _ ov),(16,.string _),(17,.slice A55 _ c55),(18,.bool _),(47,.slice (some ⟨g47,0,none⟩) _ c47),(48,.int _ _),(49,.int _ _),(59,.slice _ _ _),(60,.int _ _),(61,.int _ _)] ⟨U,U,U,U,U,U,U,U,U,U,U,U,U,U,O⟩ fun σ => Jk (Jd (Kr U U ⟨by omega,by omega⟩) U U U (Jd (Jf U) U U U (Ja ?_)))
   refine Kt (j + 1) (by omega) (show j + 1 ≤ _ by omega) ⟨(congrArg Value.bool (done_no2 hj1 hd0 hk78)),U,trivial⟩ ⟨U,U,U,U,U,U,U,U,U,U,U,U,O⟩ ⟨_,U⟩
   have hk72 : decide (l[j].dig = descP (fpl gs) l[j].path) = false := hg72
   refine Jj U U U U hg72 U U (Jj U U U U hg72 U U (Jj U U U U hg72 U U (Js U U U U hg67 (Jd (Je (Jp U hg72 U)) U U U (Js U U U U hg67 (Jd (Je (Jn U)) U U U (Jj U U U U U U U (Jj U U U U U U U ?_))))))))
   refine Jj U U U U U U U (Jj U U U U U U U (Js U U U U hg67 (Jd (Je (Jp U U U)) U U U (Jd (Jp U hg67 U) U U U (Jd (Ji U) U U U (Ja (hN27 _ _ (Jb [(0,.slice _ _ _),(1,.slice _ _ _),(9,.pointer _),(10,.slice _ _ _),(14,.slice Ov _ ov),(16,.string _),(17,.slice A55 _ c55),(18,.bool _),(47,.slice (some ⟨g47,0,none⟩) _ c47),(48,.int _ _),(49,.int _ _),(59,.slice _ _ _),(60,.int _ _),(61,.int _ _)] ⟨U,U,U,U,U,U,U,U,U,U,U,U,U,U,O⟩ fun σ => ?_))))))))
   refine Jk (Jd (Kr U U ⟨by omega,by omega⟩) U U U (Jd (Jf U) U U U (Ja ?_)))
   refine Kt (j + 1) (by omega) (show j + 1 ≤ _ by omega) ⟨(congrArg Value.bool (done_no1 hj1 hd0 hk72)),U,trivial⟩ ⟨U,U,U,U,U,U,U,U,U,U,U,U,O⟩ ⟨_,U⟩
   have hd0 : doneTo (rls rs) l (fpl gs) (chgL (fpl fs) (fpl gs))[k] j = true := hg67
   refine Jj U U U U hg67 U U (Jj U U U U hg67 U U (Jj U U U U hg67 U U (Jj U U U U hg67 U U (Mf U U U U U U (Mf U U U U U U (Mf U U U U U U (Mf U U U U U U (Jj U U U U hg67 U U ?_))))))))
   refine Jj U U U U hg67 U U (Mf U U U U U U (Mf U U U U U U (Mf U U U U U U (Mf U U U U U U (Jj U U U U hg67 U U (Jd (Jo U hg67 U) U U U (Jd (Ji U) U U U (Ja ?_))))))))
   refine hN27 _ _ (Jb [(0,.slice _ _ _),(1,.slice _ _ _),(9,.pointer _),(10,.slice _ _ _),(14,.slice Ov _ ov),(16,.string _),(17,.slice A55 _ c55),(18,.bool _),(47,.slice (some ⟨g47,0,none⟩) _ c47),(48,.int _ _),(49,.int _ _),(59,.slice _ _ _),(60,.int _ _),(61,.int _ _)] ⟨U,U,U,U,U,U,U,U,U,U,U,U,U,U,O⟩ fun σ => Jk (Jd (Kr U U ⟨by omega,by omega⟩) U U U (Jd (Jf U) U U U (Ja ?_))))
   refine Kt (j + 1) (by omega) (show j + 1 ≤ _ by omega) ⟨(congrArg Value.bool (done_old hj1 hd0)),U,trivial⟩ ⟨U,U,U,U,U,U,U,U,U,U,U,U,O⟩ ⟨_,U⟩
   replace hc62 := odf hc62
   have hdA : doneTo (rls rs) l (fpl gs) (chgL (fpl fs) (fpl gs))[k] j = doneB (rls rs) l (fpl gs) (chgL (fpl fs) (fpl gs))[k] := doneTo_all (by omega)
   refine Mx ?_
   refine hN23 _ _ (Jb [(0,.slice _ _ _),(1,.slice _ _ _),(9,.pointer _),(10,.slice _ _ _),(14,.slice Ov _ ov),(16,.string _),(18,.bool _),(47,.slice (some ⟨g47,0,none⟩) _ c47),(48,.int _ _),(49,.int _ _)] ⟨U,U,U,U,U,U,U,U,U,U,O⟩ fun σ => Jg fun N29 hN29 => Jk (Jd (Jn U) U U U (Jd (Mp U) U U U (Ja (hN29 _ _ (Jb [(0,.slice _ _ _),(1,.slice _ _ _),(9,.pointer _),(10,.slice _ _ _),(14,.slice Ov _ ov),(16,.string _),(47,.slice (some ⟨g47,0,none⟩) _ c47),(48,.int _ _),(49,.int _ _),(87,.bool _)] ⟨U,U,U,U,U,U,U,U,U,U,O⟩ fun σ => ?_))))))
   refine Jt (b := _) U (fun hc87 => ?_) (fun hc87 => ?_)
   rw [hdA] at hc87
   refine Jk (Jd (Ju (v := .slice Ov _ ov) U) U U U (Jd (Ku U) U U U ?_))
   refine Qo (vs := [.string _]) (cells := #[_]) Tryz.underlying22 Tryz.sizeOf9 Tryz.zeroValue9 U (by decide) (by decide) U U U U (fun b90 hb90 => ?_)
   refine Qj 8 (f := strCells) (l2 := [(chgL (fpl fs) (fpl gs))[k]]) Tryz.underlying22 el9 Wl (v := .slice Ov _ ov) U U U U (fun h => by cases h) (by simp [maxLen]; omega) (by simp; omega) (Wp 10 U U) U (fun v91 => ?_)
   refine Ky (fun w hM => Ug (hM.own 8 U)) ?_
   rintro ⟨A91,c91,rfl,hc91,hm91⟩
   refine Jd (Kx (v := .slice A91 _ c91) U) U U U (Ja (hN19 _ _ (gT [box b6 _,box b7 _,box b9 _,rowl _ _ _ _ _ _,box b11 _,box b12 _,box b13 _,rowl _ _ _ _ _ _,rowl _ _ _ _ _ _,rowl _ _ _ _ _ _,box b90 _] U (Jb [(0,.slice _ _ _),(1,.slice _ _ _),(9,.pointer _),(10,.slice _ _ _),(14,.slice A91 _ c91),(47,.slice (some ⟨g47,0,none⟩) _ c47),(48,.int _ _),(49,.int _ _)] ⟨U,U,U,U,U,U,U,U,O⟩ fun σ => Jk (Jd (Kr U U ⟨by omega,by omega⟩) U U U (Jd (Jf U) U U U (Ja ?_)))))))
   rw [← missTo_yes hk1 hc87]
   refine Kt ((k + 1,A91,c91)) (by show (chgL (fpl fs) (fpl gs)).length - (k + 1) < (chgL (fpl fs) (fpl gs)).length - k; omega) (show k + 1 ≤ _ by omega) ⟨(by rw [missTo_yes hk1 hc87]; rfl),U,trivial⟩ ⟨U,U,U,U,U,U,O⟩ ⟨_,U⟩
   rw [hdA] at hc87
   refine Jw (hN19 _ _ (Jb [(0,.slice _ _ _),(1,.slice _ _ _),(9,.pointer _),(10,.slice _ _ _),(14,.slice Ov _ ov),(47,.slice (some ⟨g47,0,none⟩) _ c47),(48,.int _ _),(49,.int _ _)] ⟨U,U,U,U,U,U,U,U,O⟩ fun σ => Jk (Jd (Kr U U ⟨by omega,by omega⟩) U U U (Jd (Jf U) U U U (Ja ?_)))))
   rw [← missTo_no hk1 hc87]
   refine Kt ((k + 1,Ov,ov)) (by show (chgL (fpl fs) (fpl gs)).length - (k + 1) < (chgL (fpl fs) (fpl gs)).length - k; omega) (show k + 1 ≤ _ by omega) ⟨U,U,O⟩ ⟨U,U,U,U,U,U,O⟩ ⟨_,U⟩
  replace hc50 := odf hc50
  refine Mx ?_
  refine hN15 _ _ (Jb [(9,.pointer _),(14,.slice Ov _ ov)] ⟨U,U,O⟩ fun σ => Jg fun N30 hN30 => Jk (Jd (Ju (v := .slice Ov _ ov) U) U U U (Jd (Kd (vs := []) (cells := #[.int .i64 0,.int .i64 0]) U Qh) U U U (Jd (Kx (v := .slice Ov _ ov) U) U U U (Jr 2 (v := .agg #[_,_]) (cs' := #[_,_]) U U Tryz.sizeOf33 U U U U (leb U) U U (Ja (hN30 _ _ (gT [box b6 _,box b7 _,box b9 _,rowl _ _ _ _ _ _,box b11 _,box b12 _,box b13 _,rowl _ _ _ _ _ _,rowl _ _ _ _ _ _] U ?_))))))))
  refine Jb [(8,.slice Ov _ ov),(9,.pointer _)] ⟨U,U,O⟩ fun σ => ?_
  refine Ke fun w1 hM => ?_
  refine ⟨_,res2 rfl (rt (v := .slice Ov _ ov) rfl) (rc 2 (cs := [_,_]) hM rfl rfl Tryz.isAgg33 Tryz.sizeOf33 rfl),?_⟩
  have hmA := missTo_all (rs := rls rs) (l := l) (a := fpl fs) (b := fpl gs) (k := k) (by omega)
  rw [hmA] at hM
  exact ⟨_,_,by rw [hF,hmA],by rw [missV,if_pos hF]; rfl,hM.dropTo 8 rfl⟩
end Go.Proofs.YtbkameioedmlkaaGreatDoor
namespace Go.Proofs.YtbkameioedmlkaaGreatDoor
open Go.RowKit Go.Cf
set_option maxRecDepth 10000
theorem bd89_0_1 (x1 : ByteArray) (x2 : Option Addr) (x2l x2c : Nat) : Tryz.prog.built 89 [(0, .string x1), (1, .slice x2 x2l x2c)] = some #[.string x1, .slice x2 x2l x2c] := by kernel_rfl
set_option maxHeartbeats 32000000 in
theorem law40_any (w : World) (A : Option Addr) (c : Nat) (fs : List FileC) (hR : TreeR w 0 A c fs) (XA : Option Addr) (xc : Nat) (l : List ChgC) (hl : Rdl w 0 5 chgCells XA l) (hx : ∀ x ∈ l, ChgR w 0 x) (hn : l.length ≤ maxLen) (u : Int) (hL : LaidP w) : Calls Tryz.prog 6 #[.agg #[.slice A fs.length c], .agg #[.slice XA l.length xc], .int .i64 u] w fun e w' => e = .returned (.bool true) ∧ Below w.heap.size w w' := by
 have hsl := hR.sb.len
 have hsm := hR.sb.max
 have hmx : maxLen = 9223372036854775807 := rfl
 refine Kz Tryz.func6 U Tryz.ntmps6 (leb U) ?_
 refine Jb [(0,.agg #[_]),(1,.agg #[_]),(2,.int _ _)] ⟨U,U,U,O⟩ fun σ => Jg fun N1 hN1 => Jk ?_
 refine Mt (v := .agg #[_]) (cs := #[_]) U U U (fun b3 hb3 => ?_)
 refine Mt (v := .agg #[_]) (cs := #[_]) U U U (fun b4 hb4 => ?_)
 refine Jd (Ji U) U U U (Ja (hN1 _ _ (gT [box b3 _,box b4 _] U (Jb [(2,.int _ _),(3,.pointer _),(4,.pointer _)] ⟨U,U,U,O⟩ fun σ => Jg fun N2 hN2 => Jg fun N3 hN3 => Jk ?_))))
 refine Km (Kb (vs := []) Tryz.func7 U (by kernel_rfl) U) (fun w hM => nReviews_any w (hL.base hM)) U U U ?_
 refine Jd (Mp U) U U U (Ja (hN3 _ _ (Jb [(2,.int _ _),(3,.pointer _),(4,.pointer _),(25,.bool _)] ⟨U,U,U,U,O⟩ fun σ => ?_)))
 refine Jt (b := _) U (fun hc25 => ?_) (fun hc25 => ?_)
 exact absurd hc25 (by decide)
 replace hc25 := Ue hc25
 refine Jw (hN2 _ _ (Jb [(2,.int _ _),(3,.pointer _),(4,.pointer _)] ⟨U,U,U,O⟩ fun σ => Jg fun N4 hN4 => Jk (Jd (Kk (cs := [_]) Tryz.isAgg81 Tryz.sizeOf81 U U (Kf 1 U)) U U U (Jd (Kk (cs := [_]) Tryz.isAgg61 Tryz.sizeOf61 U U (Kf 0 U)) U U U ?_))))
 refine My (fun v T' => ∃ (lo : Nat) (GA : Option Addr) (gc : Nat) (gs : List FileC) (gr : Reg) (f : Fault),w.heap.size ≤ lo ∧ v = .tuple #[.agg #[.slice GA gs.length gc],fv f] ∧ (f.code = 0 → treeF (fpl fs) = ⟨0,0⟩ ∧ TOk (fpl gs)) ∧ (∀ w1,gr.ok w1 → ∀ f ∈ gs,FileR w1 0 f) ∧ T' = [rowl fileCells lo 85 2 (.slice GA gs.length gc) (gs),gr]) (Kb (vs := [.agg #[_],.agg #[_]]) Tryz.func25 U (by kernel_rfl) U) (fun w hM => (tapply_any w XA xc l (hl.base hM) (fun x h => ChgR.lasts.base (hx x h) hM) hn A c fs (hR.base hM)).mono fun _ _ ⟨v,T1,h1,⟨GA,gc,n,gs,gr,f,h2,h3,h4,h5,h6⟩,h7⟩ => (by subst h3; exact ⟨v,T1,h1,⟨_,GA,gc,gs,gr,f,hM.low.size,h2,h4,h5,h6⟩,h7⟩)) U U U ?_
 rintro _ _ ⟨lo29,GA,gc,gs,gr,f29,hlo29,rfl,hok,hgr,rfl⟩
 refine Ky (fun w hM => Mz (hM.ok _ (List.mem_of_getElem? (i := 2) U))) ?_
 rintro ⟨A9,c9,hv9,hgc,hgm,hgn⟩
 simp only [Value.slice.injEq] at hv9
 obtain ⟨rfl,-,rfl⟩ := hv9
 refine Jd (Ju (v := .tuple #[.agg #[.slice GA _ gc],.agg #[_,_]]) U) U U U (Jd (Mw (v := .agg #[_]) U U) U U U (Jd (Mw (v := .agg #[_,_]) U U) U U U ?_))
 refine Ka (cs := #[.slice none 0 0]) Tryz.zeroValue61 U U (fun b7 hb7 => ?_)
 refine Ka (cs := #[.int .i64 0,.int .i64 0]) Tryz.zeroValue33 U U (fun b8 hb8 => ?_)
 refine Jr 4 (v := .agg #[_]) (cs' := #[_]) U U Tryz.sizeOf61 U U U U (leb U) U U (Jr 5 (v := .agg #[_,_]) (cs' := #[_,_]) U U Tryz.sizeOf33 U U U U (leb U) U U (Ja (hN4 _ _ (gT [box b3 _,box b4 _,rowl _ _ _ _ _ _,gr,box b7 _,box b8 _] U (Jb [(2,.int _ _),(3,.pointer _),(7,.pointer _),(8,.pointer _)] ⟨U,U,U,U,O⟩ fun σ => Jg fun N5 hN5 => Jg fun N6 hN6 => Jk (Jd (Jc Uo U) U U U (Jd (Jq Tryz.isAgg3 U (Jm 5 U U)) U U U (Jd (Uj U U) U U U ?_))))))))
 refine Jd (Jn U) U U U ?_
 refine Kh (want := false) U U U U U U (fun hg35 => ?_) (fun hg35 => ?_)
 have hg35d := Decidable.not_not.1 (odf hg35)
 refine Jd (Je (Jf U)) U U U (Js U U U U hg35 (Jd (Je (Me U U)) U U U (Jd (Jp U hg35 U) U U U (Jd (Jn U) U U U ?_))))
 refine Kh (want := false) U U U U U U (fun hg39 => ?_) (fun hg39 => ?_)
 have hg39d := odf hg39
 refine Jd (Je (Jf U)) U U U (Js U U U U hg39 (Jd (Je (Mh U U)) U U U (Jd (Jp U hg39 U) U U U (Ja (hN6 _ _ (Jb [(2,.int _ _),(3,.pointer _),(7,.pointer _),(42,.bool _)] ⟨U,U,U,U,O⟩ fun σ => ?_))))))
 refine Jt (b := _) U (fun hc42 => ?_) (fun hc42 => ?_)
 replace hc42 := odt hc42
 refine Jg fun N7 hN7 => Jk (Jd (Ji U) U U U (Ja (hN7 _ _ (Jb [(6,.bool _)] ⟨U,O⟩ fun σ => ?_))))
 refine Ke fun w1 hM => ?_
 refine ⟨_,res1 rfl (rt (v := .bool _) rfl),?_⟩
 exact ⟨rfl,hM.low⟩
 replace hc42 := odf hc42
 obtain ⟨htz,hOkG⟩ := hok (by omega)
 have h4 : L40 (fpl fs) (fpl gs) u := ⟨htz,hOkG,by omega,by omega⟩
 have hp24 := h4.len
 have hf24 : fs.length ≤ 24 := by have h9 := (Qq htz).len; simpa using h9
 have hg24 : gs.length ≤ 24 := by have h9 := hOkG.len; simpa using h9
 have hpl : (pathsL (fpl fs)).length = fs.length := by simp [pathsL]
 have hva := approveV_len h4.a1
 have hvb := approveV_len h4.a2
 refine Jw (hN5 _ _ (Jb [(2,.int _ _),(3,.pointer _),(7,.pointer _)] ⟨U,U,U,O⟩ fun σ => Jg fun N8 hN8 => Jk (Jd (Kq U) U U U (Ja (hN8 _ _ (Jb [(2,.int _ _),(3,.pointer _),(7,.pointer _),(9,.slice _ _ _)] ⟨U,U,U,U,O⟩ fun σ => Jg fun N9 hN9 => Jg fun N10 hN10 => Jk (Jd (Jh U) U U U (Ja ?_))))))))
 refine hN10 _ _ (Jb [(2,.int _ _),(3,.pointer _),(7,.pointer _),(9,.slice _ _ _),(10,.int _ _)] ⟨U,U,U,U,U,O⟩ fun σ => Kn ?_)
 refine Xw strCells 9 1 ?_
 refine Mm [(9,.slice _ _ _),(10,.int _ _)] [(2,.int _ _),(3,.pointer _),(7,.pointer _)] ⟨U,U,O⟩ ⟨U,U,U,O⟩ fun σ => ?_
 refine Ml (G := Nat × Option Addr × Nat) (fun (k,Pv,pv) => k ≤ fs.length) (fun (k,Pv,pv) => fs.length - k) (fun (k,Pv,pv) => [(9,.slice Pv ((pathsL (fpl fs)).take k).length pv),(10,.int .i64 (k : Int))]) (fun (k,Pv,pv) => [(6,rowl strCells w.heap.size 9 1 (.slice Pv ((pathsL (fpl fs)).take k).length pv) ((pathsL (fpl fs)).take k))]) ((0,none,0)) ?h0 ⟨U,U,O⟩ ⟨U,U,U,O⟩ U ?round
 case h0 => exact Nat.zero_le _
 case round =>
  rintro ⟨k,Pv,pv⟩ hφ σ
  have hk : k ≤ fs.length := hφ
  refine gT [box b3 _,box b4 _,rowl _ _ _ _ _ _,gr,box b7 _,box b8 _,rowl _ _ _ _ _ _] U (Jg fun N11 hN11 => Jg fun N12 hN12 => Jk (Jd (Jf U) U U U (Jd (Jc Qm U) U U U (Jd (Jq Tryz.isAgg59 U (Jm 0 U U)) U U U (Jd (Ks Tryz.underlying59 U) U U U (Jd (Me U U) U U U (Ja (hN12 _ _ ?_))))))))
  refine Jb [(2,.int _ _),(3,.pointer _),(7,.pointer _),(9,.slice Pv _ pv),(10,.int _ _),(47,.bool _)] ⟨U,U,U,U,U,U,O⟩ fun σ => ?_
  refine Jt (b := _) U (fun hc47 => ?_) (fun hc47 => ?_)
  replace hc47 := odt hc47
  have hk1 : k < fs.length := by omega
  obtain ⟨ad,rfl,-,hca⟩ := hR.rd.at_ hk1
  have hpk : (pathsL (fpl fs))[k]'(by omega) = fs[k].pl.path := by simp [pathsL]
  have hps : (pathsL (fpl fs)).take (k + 1) = (pathsL (fpl fs)).take k ++ [fs[k].pl.path] := by rw [List.take_succ_eq_append_getElem (by omega),hpk]
  refine Jw (hN11 _ _ (Jb [(2,.int _ _),(3,.pointer _),(7,.pointer _),(9,.slice Pv _ pv),(10,.int _ _)] ⟨U,U,U,U,U,O⟩ fun σ => Jg fun N13 hN13 => Kn (Jk (Jd (Ju (v := .slice Pv _ pv) U) U U U (Jd (Jc Qm U) U U U (Jd (Jq Tryz.isAgg59 U (Jm 0 U U)) U U U (Jd (Jf U) U U U (Jd (Jz (m := k) Tryz.underlying59 Tryz.sizeOf85 U U (by omega) (by omega) (by omega)) U U U ?_))))))))
  refine Jd (Kv Wr U) U U U (Jd (Jq Tryz.isAgg9 U (Ms (hca 0 _ U))) U U U ?_)
  refine Qo (vs := [.string _]) (cells := #[_]) Tryz.underlying22 Tryz.sizeOf9 Tryz.zeroValue9 U (by decide) (by decide) U U U U (fun b57 hb57 => ?_)
  refine Qj 6 (f := strCells) (l2 := [fs[k].pl.path]) Tryz.underlying22 el9 Wl (v := .slice Pv _ pv) U U U U (fun h => by cases h) (by simp [maxLen]; omega) (by simp; omega) (Wp 7 U U) U (fun v58 => ?_)
  refine Ky (fun w hM => Ug (hM.own 6 U)) ?_
  rintro ⟨A58,c58,rfl,hc58,hm58⟩
  refine Jd (Kx (v := .slice A58 _ c58) U) U U U (Ja (hN13 _ _ (gT [box b3 _,box b4 _,rowl _ _ _ _ _ _,gr,box b7 _,box b8 _,rowl _ _ _ _ _ _,box b57 _] U (Jb [(2,.int _ _),(3,.pointer _),(7,.pointer _),(9,.slice A58 _ c58),(10,.int _ _)] ⟨U,U,U,U,U,O⟩ fun σ => Jk (Jd (Jf U) U U U (Jd (Kr U U ⟨by omega,by omega⟩) U U U (Jd (Jh U) U U U (Ja ?_))))))))
  rw [← hps]
  refine Kt ((k + 1,A58,c58)) (by show fs.length - (k + 1) < fs.length - k; omega) (show k + 1 ≤ _ by omega) ⟨(by rw [hps]; rfl),U,trivial⟩ ⟨U,U,U,O⟩ ⟨_,U⟩
  replace hc47 := odf hc47
  refine Un (fun w hM => Mz (hM.ok _ (List.mem_of_getElem? (i := 6) U))) ?_
  rintro ⟨A9,c9,hv9,hpc,hpm,hpn⟩
  simp only [Value.slice.injEq] at hv9
  obtain ⟨rfl,-,rfl⟩ := hv9
  have hke : (pathsL (fpl fs)).take k = pathsL (fpl fs) := List.take_of_length_le (by omega)
  rw [hke] at hpc ⊢
  refine Un (Φ := 0 < (pathsL (fpl fs)).length → ∃ g,Pv = some ⟨g,0,none⟩) (fun w hM h9 => Xn (hM.ok _ (List.mem_of_getElem? (i := 6) U)) h9) ?_
  intro hgP
  refine Mx ?_
  refine hN9 _ _ (Jb [(2,.int _ _),(3,.pointer _),(7,.pointer _),(9,.slice Pv _ pv)] ⟨U,U,U,U,O⟩ fun σ => Jg fun N14 hN14 => Jk (Jd (Kk (cs := [_]) Tryz.isAgg61 Tryz.sizeOf61 U U (Kf 0 U)) U U U (Jd (Jf U) U U U (Jd (Ju (v := .slice Pv _ pv) U) U U U ?_))))
  refine My (fun v T' => ∃ lo u1,v = .tuple #[u1,fv ⟨0,0⟩] ∧ w.heap.size ≤ lo ∧ T' = [rowl apprCells lo 70 3 (u1) (approveV (fpl fs) u (pathsL (fpl fs)))]) (Kb (vs := [.agg #[_],.int _ _,.slice Pv _ pv]) Tryz.func26 U (by kernel_rfl) U) (fun w hM => by have hpp : Rdl w 0 1 strCells Pv (pathsL (fpl fs)) := ((Qw (f := strCells) (fun _ => rfl) (hM.ok _ (List.mem_of_getElem? (i := 6) rfl))).mono (Nat.zero_le _)); have hc := JQ w A c fs (hR.base hM) u Pv pv (pathsL (fpl fs)) hpp hpc hpm; rw [show approveF (fpl fs) u (pathsL (fpl fs)) = ⟨0,0⟩ from h4.a1] at hc; exact hc.mono fun _ _ ⟨v,T1,h1,h2,h3⟩ => ⟨_,T1,h1,⟨_,v,rfl,hM.low.size,h2⟩,h3⟩) U U U ?_
  rintro _ _ ⟨lo63,u63,rfl,hlo63,rfl⟩
  refine Ky (fun w hM => Mz (hM.ok _ (List.mem_of_getElem? (i := 7) U))) ?_
  rintro ⟨A63,c63,rfl,hc63,hm63,hn63⟩
  refine Ky (Φ := 0 < (approveV (fpl fs) u (pathsL (fpl fs))).length → ∃ g,A63 = some ⟨g,0,none⟩) (fun w hM h9 => Xn (hM.ok _ (List.mem_of_getElem? (i := 7) U)) h9) ?_
  intro hg63
  refine Jd (Ju (v := .tuple #[.slice A63 _ c63,.agg #[_,_]]) U) U U U (Jd (Qz U U) U U U (Jd (Mw (v := .agg #[_,_]) U U) U U U ?_))
  refine Ka (cs := #[.int .i64 0,.int .i64 0]) Tryz.zeroValue33 U U (fun b12 hb12 => ?_)
  refine Jd (Kq U) U U U (Jr 8 (v := .agg #[_,_]) (cs' := #[_,_]) U U Tryz.sizeOf33 U U U U (leb U) U U (Ja (hN14 _ _ (gT [box b3 _,box b4 _,rowl _ _ _ _ _ _,gr,box b7 _,box b8 _,rowl _ _ _ _ _ _,rowl _ _ _ _ _ _,box b12 _] U (Jb [(2,.int _ _),(3,.pointer _),(7,.pointer _),(9,.slice Pv _ pv),(11,.slice _ _ _),(12,.pointer _)] ⟨U,U,U,U,U,U,O⟩ fun σ => Jg fun N15 hN15 => Jk (Jd (Kk (cs := [_]) Tryz.isAgg61 Tryz.sizeOf61 U U (Kf 4 U)) U U U (Jd (Jf U) U U U (Jd (Ju (v := .slice Pv _ pv) U) U U U ?_))))))))
  refine My (fun v T' => ∃ lo u1,v = .tuple #[u1,fv ⟨0,0⟩] ∧ w.heap.size ≤ lo ∧ T' = [rowl apprCells lo 70 3 (u1) (approveV (fpl gs) u (pathsL (fpl fs)))]) (Kb (vs := [.agg #[_],.int _ _,.slice Pv _ pv]) Tryz.func26 U (by kernel_rfl) U) (fun w hM => by have htG : TreeR w 0 GA gc gs := ⟨((Qw (f := fileCells) (fun _ => rfl) (hM.ok _ (List.mem_of_getElem? (i := 2) rfl))).mono (Nat.zero_le _)),hgr w (hM.ok _ (List.mem_of_getElem? (i := 3) rfl)),sb40 hgc hgm hgn (by omega)⟩; have hpp : Rdl w 0 1 strCells Pv (pathsL (fpl fs)) := ((Qw (f := strCells) (fun _ => rfl) (hM.ok _ (List.mem_of_getElem? (i := 6) rfl))).mono (Nat.zero_le _)); have hc := JQ w GA gc gs htG u Pv pv (pathsL (fpl fs)) hpp hpc hpm; rw [show approveF (fpl gs) u (pathsL (fpl fs)) = ⟨0,0⟩ from h4.a2] at hc; exact hc.mono fun _ _ ⟨v,T1,h1,h2,h3⟩ => ⟨_,T1,h1,⟨_,v,rfl,hM.low.size,h2⟩,h3⟩) U U U ?_
  rintro _ _ ⟨lo70,u70,rfl,hlo70,rfl⟩
  refine Ky (fun w hM => Mz (hM.ok _ (List.mem_of_getElem? (i := 9) U))) ?_
  rintro ⟨A70,c70,rfl,hc70,hm70,hn70⟩
  refine Ky (Φ := 0 < (approveV (fpl gs) u (pathsL (fpl fs))).length → ∃ g,A70 = some ⟨g,0,none⟩) (fun w hM h9 => Xn (hM.ok _ (List.mem_of_getElem? (i := 9) U)) h9) ?_
  intro hg70
  refine Jd (Ju (v := .tuple #[.slice A70 _ c70,.agg #[_,_]]) U) U U U (Jd (Qz U U) U U U (Jd (Mw (v := .agg #[_,_]) U U) U U U ?_))
  refine Ka (cs := #[.int .i64 0,.int .i64 0]) Tryz.zeroValue33 U U (fun b14 hb14 => ?_)
  refine Jd (Kq U) U U U (Jr 10 (v := .agg #[_,_]) (cs' := #[_,_]) U U Tryz.sizeOf33 U U U U (leb U) U U (Ja (hN15 _ _ (gT [box b3 _,box b4 _,rowl _ _ _ _ _ _,gr,box b7 _,box b8 _,rowl _ _ _ _ _ _,rowl _ _ _ _ _ _,box b12 _,rowl _ _ _ _ _ _,box b14 _] U (Jb [(2,.int _ _),(3,.pointer _),(7,.pointer _),(9,.slice Pv _ pv),(11,.slice _ _ _),(12,.pointer _),(13,.slice _ _ _),(14,.pointer _)] ⟨U,U,U,U,U,U,U,U,O⟩ fun σ => Jg fun N16 hN16 => Jg fun N17 hN17 => Jk (Jd (Jc Uo U) U U U (Jd (Jq Tryz.isAgg3 U (Jm 8 U U)) U U U (Jd (Uj U U) U U U ?_))))))))
  refine Jd (Jn U) U U U ?_
  refine Kh (want := false) U U U U U U (fun hg76 => ?_) (fun hg76 => ?_)
  have hg76d := Decidable.not_not.1 (odf hg76)
  refine Jd (Je (Jc Uo U)) U U U (Js U U U U hg76 (Jd (Je (Jq Tryz.isAgg3 U (Jm 10 U U))) U U U (Js U U U U hg76 (Jd (Je (Uj U U)) U U U (Jd (Jp U hg76 U) U U U (Jd (Jn U) U U U ?_))))))
  refine Kh (want := false) U U U U U U (fun hg81 => ?_) (fun hg81 => ?_)
  have hg81d := Decidable.not_not.1 (odf hg81)
  refine Jd (Je (Kl U)) U U U (Js U U U U hg81 (Jd (Je (Ks Tryz.underlying58 U)) U U U (Js U U U U hg81 (Jd (Je (Ju (v := .slice Pv _ pv) U)) U U U (Js U U U U hg81 (Jd (Je (Ks Tryz.underlying22 U)) U U U (Js U U U U hg81 (Jd (Je (Uj U U)) U U U ?_))))))))
  refine Jd (Jp U hg81 U) U U U (Jd (Jn U) U U U ?_)
  refine Kh (want := false) U U U U U U (fun hg88 => ?_) (fun hg88 => ?_)
  have hg88d := Decidable.not_not.1 (odf hg88)
  refine Jd (Je (Kl U)) U U U (Js U U U U hg88 (Jd (Je (Ks Tryz.underlying58 U)) U U U (Js U U U U hg88 (Jd (Je (Ju (v := .slice Pv _ pv) U)) U U U (Js U U U U hg88 (Jd (Je (Ks Tryz.underlying22 U)) U U U (Js U U U U hg88 (Jd (Je (Uj U U)) U U U ?_))))))))
  refine Jd (Jp U hg88 U) U U U (Ja (hN17 _ _ (Jb [(2,.int _ _),(3,.pointer _),(7,.pointer _),(9,.slice Pv _ pv),(11,.slice _ _ _),(13,.slice _ _ _),(94,.bool _)] ⟨U,U,U,U,U,U,U,O⟩ fun σ => ?_)))
  refine Jt (b := _) U (fun hc94 => ?_) (fun hc94 => ?_)
  first | exact absurd (odt hc94) (by rw [hvb]; simp) | (rw [hvb] at hc94; simp at hc94)
  replace hc94 := Decidable.not_not.1 (odf hc94)
  refine Jw (hN16 _ _ (Jb [(2,.int _ _),(3,.pointer _),(7,.pointer _),(9,.slice Pv _ pv),(11,.slice _ _ _),(13,.slice _ _ _)] ⟨U,U,U,U,U,U,O⟩ fun σ => Jg fun N18 hN18 => Jk (Jd (Jf U) U U U ?_)))
  refine Qo (vs := [.int _ _]) (cells := #[_]) Tryz.underlying74 Tryz.sizeOf3 Tryz.zeroValue3 U (by decide) (by decide) U U U U (fun b96 hb96 => ?_)
  refine Jd (Kd (vs := [(0,_),(1,.slice (some _) _ _)]) (cells := #[_,_]) U (bd89_0_1 _ _ _ _)) U U U ?_
  refine Qo (vs := [.agg #[_,_]]) (cells := #[_,_]) Tryz.underlying57 Tryz.sizeOf89 Tryz.zeroValue89 U (by decide) (by decide) U U U U (fun b98 hb98 => ?_)
  refine Jd (Kx (v := .slice (some _) _ _) U) U U U (Ja (hN18 _ _ (gT [box b3 _,box b4 _,rowl _ _ _ _ _ _,gr,box b7 _,box b8 _,rowl _ _ _ _ _ _,rowl _ _ _ _ _ _,box b12 _,rowl _ _ _ _ _ _,box b14 _,box b96 _,box b98 _] U (Jb [(3,.pointer _),(7,.pointer _),(9,.slice Pv _ pv),(11,.slice _ _ _),(13,.slice _ _ _),(15,.slice (some _) _ _)] ⟨U,U,U,U,U,U,O⟩ fun σ => Jg fun N19 hN19 => Jk (Jd (Ju (v := .slice (some _) _ _) U) U U U (Jd (Kk (cs := [_]) Tryz.isAgg61 Tryz.sizeOf61 U U (Kf 0 U)) U U U (Jd (Kk (cs := [_]) Tryz.isAgg61 Tryz.sizeOf61 U U (Kf 4 U)) U U U ?_)))))))
  refine My (fun v T' => ∃ lo u1,v = .tuple #[u1,fv ⟨0,0⟩] ∧ w.heap.size ≤ lo ∧ T' = [rowl strCells lo 9 1 (u1) (missV (r40 u) [] (fpl fs) (fpl gs))]) (Kb (vs := [.slice (some _) _ _,_,.agg #[_],.agg #[_]]) Tryz.func13 U (by kernel_rfl) U) (fun w hM => by have htG : TreeR w 0 GA gc gs := ⟨((Qw (f := fileCells) (fun _ => rfl) (hM.ok _ (List.mem_of_getElem? (i := 2) rfl))).mono (Nat.zero_le _)),hgr w (hM.ok _ (List.mem_of_getElem? (i := 3) rfl)),sb40 hgc hgm hgn (by omega)⟩; have hr : RulesR w 0 (some ⟨b98,0,none⟩) 1 [⟨⟨⟨#[42,42]⟩,[u]⟩,some ⟨b96,0,none⟩,1⟩] := ⟨(Rdl.of_box 12 (f := ruleCells) (fun _ => rfl) hM rfl rfl).mono (Nat.zero_le _),fun f hf => (by obtain rfl := List.mem_singleton.1 hf; exact ⟨(Rdl.of_box 11 (f := intCells) (fun _ => rfl) hM rfl rfl).mono (Nat.zero_le _),⟨Nat.le_refl _,by simp [maxLen],fun h => (by cases h),(by first | (show 1 * 40 ≤ reachBytes; decide) | (show 1 * 16 ≤ reachBytes; decide) | (show 1 * 8 ≤ reachBytes; decide))⟩⟩),⟨Nat.le_refl _,by simp [maxLen],fun h => (by cases h),(by first | (show 1 * 40 ≤ reachBytes; decide) | (show 1 * 16 ≤ reachBytes; decide) | (show 1 * 8 ≤ reachBytes; decide))⟩⟩; have hc := missing_any w _ 1 [⟨⟨⟨#[42,42]⟩,[u]⟩,some ⟨b96,0,none⟩,1⟩] hr none 0 ([]) Rdl.nil (Nat.le_refl _) (Nat.zero_le _) A c fs (hR.base hM) GA gc gs htG; rw [show missF (rls [⟨⟨⟨#[42,42]⟩,[u]⟩,some ⟨b96,0,none⟩,1⟩]) ([]) (fpl fs) (fpl gs) = ⟨0,0⟩ from h4.m1] at hc; exact hc.mono fun _ _ ⟨v,T1,h1,h2,h3⟩ => ⟨_,T1,h1,⟨_,v,rfl,hM.low.size,h2⟩,h3⟩) U U U ?_
  rintro _ _ ⟨lo103,u103,rfl,hlo103,rfl⟩
  refine Ky (fun w hM => Mz (hM.ok _ (List.mem_of_getElem? (i := 13) U))) ?_
  rintro ⟨A103,c103,rfl,hc103,hm103,hn103⟩
  refine Ky (Φ := 0 < (missV (r40 u) [] (fpl fs) (fpl gs)).length → ∃ g,A103 = some ⟨g,0,none⟩) (fun w hM h9 => Xn (hM.ok _ (List.mem_of_getElem? (i := 13) U)) h9) ?_
  intro hg103
  refine Jd (Ju (v := .tuple #[.slice A103 _ c103,.agg #[_,_]]) U) U U U (Jd (Qz U U) U U U (Jd (Mw (v := .agg #[_,_]) U U) U U U ?_))
  refine Ka (cs := #[.int .i64 0,.int .i64 0]) Tryz.zeroValue33 U U (fun b17 hb17 => ?_)
  refine Jd (Kq U) U U U (Jr 14 (v := .agg #[_,_]) (cs' := #[_,_]) U U Tryz.sizeOf33 U U U U (leb U) U U (Ja (hN19 _ _ (gT [box b3 _,box b4 _,rowl _ _ _ _ _ _,gr,box b7 _,box b8 _,rowl _ _ _ _ _ _,rowl _ _ _ _ _ _,box b12 _,rowl _ _ _ _ _ _,box b14 _,box b96 _,box b98 _,rowl _ _ _ _ _ _,box b17 _] U (Jb [(3,.pointer _),(7,.pointer _),(9,.slice Pv _ pv),(11,.slice _ _ _),(13,.slice _ _ _),(15,.slice (some _) _ _),(16,.slice _ _ _),(17,.pointer _)] ⟨U,U,U,U,U,U,U,U,O⟩ fun σ => Jg fun N20 hN20 => Jk (Jd (Ju (v := .slice (some _) _ _) U) U U U (Jd (Kl U) U U U (Jd (Kk (cs := [_]) Tryz.isAgg61 Tryz.sizeOf61 U U (Kf 0 U)) U U U ?_))))))))
  refine Jd (Kk (cs := [_]) Tryz.isAgg61 Tryz.sizeOf61 U U (Kf 4 U)) U U U ?_
  refine My (fun v T' => ∃ lo u1,v = .tuple #[u1,fv ⟨0,0⟩] ∧ w.heap.size ≤ lo ∧ T' = [rowl strCells lo 9 1 (u1) (missV (r40 u) (approveV (fpl fs) u (pathsL (fpl fs))) (fpl fs) (fpl gs))]) (Kb (vs := [.slice (some _) _ _,.slice _ _ _,.agg #[_],.agg #[_]]) Tryz.func13 U (by kernel_rfl) U) (fun w hM => by have htG : TreeR w 0 GA gc gs := ⟨((Qw (f := fileCells) (fun _ => rfl) (hM.ok _ (List.mem_of_getElem? (i := 2) rfl))).mono (Nat.zero_le _)),hgr w (hM.ok _ (List.mem_of_getElem? (i := 3) rfl)),sb40 hgc hgm hgn (by omega)⟩; have hr : RulesR w 0 (some ⟨b98,0,none⟩) 1 [⟨⟨⟨#[42,42]⟩,[u]⟩,some ⟨b96,0,none⟩,1⟩] := ⟨(Rdl.of_box 12 (f := ruleCells) (fun _ => rfl) hM rfl rfl).mono (Nat.zero_le _),fun f hf => (by obtain rfl := List.mem_singleton.1 hf; exact ⟨(Rdl.of_box 11 (f := intCells) (fun _ => rfl) hM rfl rfl).mono (Nat.zero_le _),⟨Nat.le_refl _,by simp [maxLen],fun h => (by cases h),(by first | (show 1 * 40 ≤ reachBytes; decide) | (show 1 * 16 ≤ reachBytes; decide) | (show 1 * 8 ≤ reachBytes; decide))⟩⟩),⟨Nat.le_refl _,by simp [maxLen],fun h => (by cases h),(by first | (show 1 * 40 ≤ reachBytes; decide) | (show 1 * 16 ≤ reachBytes; decide) | (show 1 * 8 ≤ reachBytes; decide))⟩⟩; have hc := missing_any w _ 1 [⟨⟨⟨#[42,42]⟩,[u]⟩,some ⟨b96,0,none⟩,1⟩] hr A63 c63 (approveV (fpl fs) u (pathsL (fpl fs))) ((Qw (f := apprCells) (fun _ => rfl) (hM.ok _ (List.mem_of_getElem? (i := 7) rfl))).mono (Nat.zero_le _)) hc63 hm63 A c fs (hR.base hM) GA gc gs htG; rw [show missF (rls [⟨⟨⟨#[42,42]⟩,[u]⟩,some ⟨b96,0,none⟩,1⟩]) (approveV (fpl fs) u (pathsL (fpl fs))) (fpl fs) (fpl gs) = ⟨0,0⟩ from h4.m2] at hc; exact hc.mono fun _ _ ⟨v,T1,h1,h2,h3⟩ => ⟨_,T1,h1,⟨_,v,rfl,hM.low.size,h2⟩,h3⟩) U U U ?_
  rintro _ _ ⟨lo111,u111,rfl,hlo111,rfl⟩
  refine Ky (fun w hM => Mz (hM.ok _ (List.mem_of_getElem? (i := 15) U))) ?_
  rintro ⟨A111,c111,rfl,hc111,hm111,hn111⟩
  refine Ky (Φ := 0 < (missV (r40 u) (approveV (fpl fs) u (pathsL (fpl fs))) (fpl fs) (fpl gs)).length → ∃ g,A111 = some ⟨g,0,none⟩) (fun w hM h9 => Xn (hM.ok _ (List.mem_of_getElem? (i := 15) U)) h9) ?_
  intro hg111
  refine Jd (Ju (v := .tuple #[.slice A111 _ c111,.agg #[_,_]]) U) U U U (Jd (Qz U U) U U U (Jd (Mw (v := .agg #[_,_]) U U) U U U ?_))
  refine Ka (cs := #[.int .i64 0,.int .i64 0]) Tryz.zeroValue33 U U (fun b19 hb19 => ?_)
  refine Jd (Kq U) U U U (Jr 16 (v := .agg #[_,_]) (cs' := #[_,_]) U U Tryz.sizeOf33 U U U U (leb U) U U (Ja (hN20 _ _ (gT [box b3 _,box b4 _,rowl _ _ _ _ _ _,gr,box b7 _,box b8 _,rowl _ _ _ _ _ _,rowl _ _ _ _ _ _,box b12 _,rowl _ _ _ _ _ _,box b14 _,box b96 _,box b98 _,rowl _ _ _ _ _ _,box b17 _,rowl _ _ _ _ _ _,box b19 _] U (Jb [(9,.slice Pv _ pv),(11,.slice _ _ _),(13,.slice _ _ _),(16,.slice _ _ _),(17,.pointer _),(18,.slice _ _ _),(19,.pointer _)] ⟨U,U,U,U,U,U,U,O⟩ fun σ => Jg fun N21 hN21 => Jg fun N22 hN22 => Jk (Jd (Jc Uo U) U U U (Jd (Jq Tryz.isAgg3 U (Jm 14 U U)) U U U (Jd (Uj U U) U U U ?_))))))))
  refine Jd (Jn U) U U U ?_
  refine Kh (want := false) U U U U U U (fun hg117 => ?_) (fun hg117 => ?_)
  have hg117d := Decidable.not_not.1 (odf hg117)
  refine Jd (Je (Jc Uo U)) U U U (Js U U U U hg117 (Jd (Je (Jq Tryz.isAgg3 U (Jm 16 U U))) U U U (Js U U U U hg117 (Jd (Je (Uj U U)) U U U (Jd (Jp U hg117 U) U U U (Ja (hN22 _ _ (Jb [(9,.slice Pv _ pv),(11,.slice _ _ _),(13,.slice _ _ _),(16,.slice _ _ _),(18,.slice _ _ _),(121,.bool _)] ⟨U,U,U,U,U,U,O⟩ fun σ => ?_))))))))
  refine Jt (b := _) U (fun hc121 => ?_) (fun hc121 => ?_)
  exact absurd hc121 (by decide)
  replace hc121 := Decidable.not_not.1 (odf hc121)
  refine Jw (hN21 _ _ (Jb [(9,.slice Pv _ pv),(11,.slice _ _ _),(13,.slice _ _ _),(16,.slice _ _ _),(18,.slice _ _ _)] ⟨U,U,U,U,U,O⟩ fun σ => Jg fun N23 hN23 => Jk (Jd (Jh U) U U U (Ja (hN23 _ _ (Jb [(9,.slice Pv _ pv),(11,.slice _ _ _),(13,.slice _ _ _),(16,.slice _ _ _),(18,.slice _ _ _),(20,.int _ _)] ⟨U,U,U,U,U,U,O⟩ fun σ => Jg fun N24 hN24 => Jg fun N25 hN25 => Jk (Jd (Jh U) U U U (Ja ?_))))))))
  refine hN25 _ _ (Jb [(9,.slice Pv _ pv),(11,.slice _ _ _),(13,.slice _ _ _),(16,.slice _ _ _),(18,.slice _ _ _),(20,.int _ _),(21,.int _ _)] ⟨U,U,U,U,U,U,U,O⟩ fun σ => Kn ?_)
  refine Mm [(20,.int _ _),(21,.int _ _)] [(9,.slice Pv _ pv),(11,.slice _ _ _),(13,.slice _ _ _),(16,.slice _ _ _),(18,.slice _ _ _)] ⟨U,U,O⟩ ⟨U,U,U,U,U,O⟩ fun σ => ?_
  refine Ml (G := Nat × Nat) (fun (n,k) => Greedy (missV (r40 u) [] (fpl fs) (fpl gs)) (missV (r40 u) (approveV (fpl fs) u (pathsL (fpl fs))) (fpl fs) (fpl gs)) n k) (fun (n,k) => (missV (r40 u) [] (fpl fs) (fpl gs)).length - n) (fun (n,k) => [(20,.int .i64 (k : Int)),(21,.int .i64 (n : Int))]) (fun (n,k) => []) ((0,0)) ?h0 ⟨U,U,O⟩ ⟨U,U,U,U,U,O⟩ U ?round
  case h0 => exact Greedy.start h4.sub
  case round =>
   rintro ⟨n,k⟩ hφ σ
   have hG : Greedy (missV (r40 u) [] (fpl fs) (fpl gs)) (missV (r40 u) (approveV (fpl fs) u (pathsL (fpl fs))) (fpl fs) (fpl gs)) n k := hφ
   have hGn := hG.hn
   have hGk := hG.hk
   refine Jg fun N26 hN26 => Jg fun N27 hN27 => Jk (Jd (Jf U) U U U (Jd (Kl U) U U U (Jd (Ks Tryz.underlying22 U) U U U (Jd (Me U U) U U U (Ja (hN27 _ _ (Jb [(9,.slice Pv _ pv),(11,.slice _ _ _),(13,.slice _ _ _),(16,.slice _ _ _),(18,.slice _ _ _),(20,.int _ _),(21,.int _ _),(125,.bool _)] ⟨U,U,U,U,U,U,U,U,O⟩ fun σ => ?_)))))))
   refine Jt (b := _) U (fun hc125 => ?_) (fun hc125 => ?_)
   replace hc125 := odt hc125
   have hn1 : n < (missV (r40 u) [] (fpl fs) (fpl gs)).length := by omega
   obtain ⟨g103,rfl⟩ := hg103 (by omega)
   refine Jw (hN26 _ _ (Jb [(9,.slice Pv _ pv),(11,.slice _ _ _),(13,.slice _ _ _),(16,.slice _ _ _),(18,.slice _ _ _),(20,.int _ _),(21,.int _ _)] ⟨U,U,U,U,U,U,U,O⟩ fun σ => Jg fun N28 hN28 => Kn (Jg fun N29 hN29 => Jg fun N30 hN30 => ?_)))
   refine Qx (by kernel_rfl) (by kernel_rfl) ?_
   refine gq (Jf U) U U U (gq (Kl U) U U U (gq (Ks Tryz.underlying22 U) U U U (gq (Me U U) U U U (gq (Jn U) U U U ?_))))
   refine Xb (want := true) U U U U U U (fun hg132 => ?_) (fun hg132 => ?_)
   have hg132d := odt hg132
   have hk1 : k < (missV (r40 u) (approveV (fpl fs) u (pathsL (fpl fs))) (fpl fs) (fpl gs)).length := by omega
   obtain ⟨g111,rfl⟩ := hg111 (by omega)
   refine gq (Je (Kl U)) U U U (Kp U U U U hg132 (gq (Je (Jf U)) U U U (Kp U U U U hg132 (gq (Je (Jz (m := n) Tryz.underlying22 Tryz.sizeOf9 U U (by omega) (by omega) (by omega))) U U U (Kp U U U U hg132 ?_)))))
   refine gq (Je (Jq Tryz.isAgg9 U (Mj 13 (f := strCells) (l := missV (r40 u) [] (fpl fs) (fpl gs)) U U (fun _ => U) (List.getElem?_eq_getElem hn1) 0 _ U))) U U U ?_
   refine Kp U U U U hg132 (gq (Je (Kl U)) U U U (Kp U U U U hg132 (gq (Je (Jf U)) U U U (Kp U U U U hg132 (gq (Je (Jz (m := k) Tryz.underlying22 Tryz.sizeOf9 U U (by omega) (by omega) (by omega))) U U U (Kp U U U U hg132 ?_))))))
   refine gq (Je (Jq Tryz.isAgg9 U (Mj 15 (f := strCells) (l := missV (r40 u) (approveV (fpl fs) u (pathsL (fpl fs))) (fpl fs) (fpl gs)) U U (fun _ => U) (List.getElem?_eq_getElem hk1) 0 _ U))) U U U ?_
   refine Kp U U U U hg132 (gq (Je (Ur U U)) U U U (gq (Jo U hg132 U) U U U ?_))
   refine Mn ?_
   refine hN30 _ _ (Jb [(9,.slice Pv _ pv),(11,.slice _ _ _),(13,.slice _ _ _),(16,.slice _ _ _),(18,.slice _ _ _),(20,.int _ _),(21,.int _ _),(142,.bool _)] ⟨U,U,U,U,U,U,U,U,O⟩ fun σ => ?_)
   refine Jt (b := _) U (fun hc142 => ?_) (fun hc142 => ?_)
   have he142 := Yv hc142
   refine Jg fun N31 hN31 => Jk (Jd (Jf U) U U U (Jd (Kr U U ⟨by omega,by omega⟩) U U U (Jd (Jh U) U U U (Ja (hN31 _ _ (Jb [(9,.slice Pv _ pv),(11,.slice _ _ _),(13,.slice _ _ _),(16,.slice _ _ _),(18,.slice _ _ _),(20,.int _ _),(21,.int _ _)] ⟨U,U,U,U,U,U,U,O⟩ fun σ => ?_))))))
   refine Mx ?_
   refine hN28 _ _ (Jb [(9,.slice Pv _ pv),(11,.slice _ _ _),(13,.slice _ _ _),(16,.slice _ _ _),(18,.slice _ _ _),(20,.int _ _),(21,.int _ _)] ⟨U,U,U,U,U,U,U,O⟩ fun σ => Jk (Jd (Jf U) U U U (Jd (Kr U U ⟨by omega,by omega⟩) U U U (Jd (Jh U) U U U (Ja ?_)))))
   refine Kt ((n + 1,k + 1)) (by show (missV (r40 u) [] (fpl fs) (fpl gs)).length - (n + 1) < (missV (r40 u) [] (fpl fs) (fpl gs)).length - n; omega) (hG.hit hn1 hk1 he142) ⟨U,U,O⟩ ⟨U,U,U,U,U,O⟩ ⟨_,U⟩
   have hns : ∀ hk9 : k < (missV (r40 u) (approveV (fpl fs) u (pathsL (fpl fs))) (fpl fs) (fpl gs)).length,(missV (r40 u) [] (fpl fs) (fpl gs))[n] ≠ (missV (r40 u) (approveV (fpl fs) u (pathsL (fpl fs))) (fpl fs) (fpl gs))[k] := by first | exact fun _ => sb_ne_f hc142 | exact fun hk9 => absurd hk9 (by omega)
   obtain ⟨hG2,hnB⟩ := hG.skip hn1 h4.nodup hns
   refine Jw (hN29 _ _ (Jb [(9,.slice Pv _ pv),(11,.slice _ _ _),(13,.slice _ _ _),(16,.slice _ _ _),(18,.slice _ _ _),(20,.int _ _),(21,.int _ _)] ⟨U,U,U,U,U,U,U,O⟩ fun σ => Jg fun N32 hN32 => Jk (Jd (Ji U) U U U (Ja (hN32 _ _ (Jb [(9,.slice Pv _ pv),(11,.slice _ _ _),(13,.slice _ _ _),(16,.slice _ _ _),(18,.slice _ _ _),(20,.int _ _),(21,.int _ _),(22,.bool _)] ⟨U,U,U,U,U,U,U,U,O⟩ fun σ => Jg fun N33 hN33 => Jg fun N34 hN34 => Jk (Jd (Jh U) U U U (Ja ?_))))))))
   refine hN34 _ _ (Jb [(9,.slice Pv _ pv),(11,.slice _ _ _),(13,.slice _ _ _),(16,.slice _ _ _),(18,.slice _ _ _),(20,.int _ _),(21,.int _ _),(22,.bool _),(23,.int _ _)] ⟨U,U,U,U,U,U,U,U,U,O⟩ fun σ => Kn ?_)
   refine Mm [(22,.bool _),(23,.int _ _)] [(9,.slice Pv _ pv),(11,.slice _ _ _),(13,.slice _ _ _),(16,.slice _ _ _),(18,.slice _ _ _),(20,.int _ _),(21,.int _ _)] ⟨U,U,O⟩ ⟨U,U,U,U,U,U,U,O⟩ fun σ => ?_
   refine Ml (G := Nat) (fun j => j ≤ (pathsL (fpl fs)).length) (fun j => (pathsL (fpl fs)).length - j) (fun j => [(22,.bool (eqTo (fpl fs) (fpl gs) ((missV (r40 u) [] (fpl fs) (fpl gs))[n]) (pathsL (fpl fs)) j)),(23,.int .i64 (j : Int))]) (fun j => []) (0) ?h0 ⟨U,U,O⟩ ⟨U,U,U,U,U,U,U,O⟩ U ?round
   case h0 => exact Nat.zero_le _
   case round =>
    intro j hφ σ
    have hj : j ≤ (pathsL (fpl fs)).length := hφ
    refine Jg fun N35 hN35 => Jg fun N36 hN36 => Jk (Jd (Jf U) U U U (Jd (Ju (v := .slice Pv _ pv) U) U U U (Jd (Ks Tryz.underlying22 U) U U U (Jd (Me U U) U U U (Ja (hN36 _ _ (Jb [(9,.slice Pv _ pv),(11,.slice _ _ _),(13,.slice _ _ _),(16,.slice _ _ _),(18,.slice _ _ _),(20,.int _ _),(21,.int _ _),(22,.bool _),(23,.int _ _),(148,.bool _)] ⟨U,U,U,U,U,U,U,U,U,U,O⟩ fun σ => ?_)))))))
    refine Jt (b := _) U (fun hc148 => ?_) (fun hc148 => ?_)
    replace hc148 := odt hc148
    have hj1 : j < (pathsL (fpl fs)).length := by omega
    obtain ⟨gP,rfl⟩ := hgP (by omega)
    obtain ⟨g63,rfl⟩ := hg63 (by omega)
    obtain ⟨g70,rfl⟩ := hg70 (by omega)
    have hget1 := Xf h4.a1 hj1
    have hget2 := Xf h4.a2 hj1
    refine Jw (hN35 _ _ (Jb [(9,.slice (some ⟨gP,0,none⟩) _ pv),(11,.slice _ _ _),(13,.slice _ _ _),(16,.slice _ _ _),(18,.slice _ _ _),(20,.int _ _),(21,.int _ _),(22,.bool _),(23,.int _ _)] ⟨U,U,U,U,U,U,U,U,U,O⟩ fun σ => Jg fun N37 hN37 => Kn ?_))
    refine Qx (by kernel_rfl) (by kernel_rfl) ?_
    refine gq (Jn U) U U U (gq (Jn U) U U U ?_)
    refine Xb (want := false) U U U U U U (fun hg152 => ?_) (fun hg152 => ?_)
    have he0 : eqTo (fpl fs) (fpl gs) ((missV (r40 u) [] (fpl fs) (fpl gs))[n]) (pathsL (fpl fs)) j = false := hg152
    refine gq (Je (Ju (v := .slice (some ⟨gP,0,none⟩) _ pv) U)) U U U (Kp U U U U hg152 (gq (Je (Jf U)) U U U (Kp U U U U hg152 (gq (Je (Jz (m := j) Tryz.underlying22 Tryz.sizeOf9 U U (by omega) (by omega) (by omega))) U U U (Kp U U U U hg152 ?_)))))
    refine gq (Je (Jq Tryz.isAgg9 U (Mj 6 (f := strCells) (l := pathsL (fpl fs)) U U (fun _ => U) (List.getElem?_eq_getElem hj1) 0 _ U))) U U U ?_
    refine Kp U U U U hg152 (gq (Je (Kl U)) U U U (Kp U U U U hg152 (gq (Je (Jf U)) U U U (Kp U U U U hg152 (gq (Je (Jz (m := n) Tryz.underlying22 Tryz.sizeOf9 U U (by omega) (by omega) (by omega))) U U U (Kp U U U U hg152 ?_))))))
    refine gq (Je (Jq Tryz.isAgg9 U (Mj 13 (f := strCells) (l := missV (r40 u) [] (fpl fs) (fpl gs)) U U (fun _ => U) (List.getElem?_eq_getElem hn1) 0 _ U))) U U U ?_
    refine Kp U U U U hg152 (gq (Je (Ur U U)) U U U (Kp U U U U hg152 (gq (Je (Jn U)) U U U ?_)))
    refine Xb (want := true) U U U U U U (fun hg162 => ?_) (fun hg162 => ?_)
    have hp162 : ((pathsL (fpl fs))[j].toList == ((missV (r40 u) [] (fpl fs) (fpl gs))[n]).toList) = true := hg162
    refine gq (Je (Kl U)) U U U (Kp U U U U hg162 (gq (Je (Jf U)) U U U (Kp U U U U hg162 (gq (Je (Jz (m := j) Tryz.underlying58 Tryz.sizeOf70 U U (by omega) (by omega) (by omega))) U U U (Kp U U U U hg162 (gq (Je (Kv UU U)) U U U (Kp U U U U hg162 (gq (Je (Jq Tryz.isAgg3 U (Mj 7 (f := apprCells) (l := approveV (fpl fs) u (pathsL (fpl fs))) U U (fun _ => U) hget1 2 _ U))) U U U ?_))))))))
    refine Kp U U U U hg162 (gq (Je (Kl U)) U U U (Kp U U U U hg162 (gq (Je (Jf U)) U U U (Kp U U U U hg162 (gq (Je (Jz (m := j) Tryz.underlying58 Tryz.sizeOf70 U U (by omega) (by omega) (by omega))) U U U (Kp U U U U hg162 (gq (Je (Kv UU U)) U U U (Kp U U U U hg162 ?_))))))))
    refine gq (Je (Jq Tryz.isAgg3 U (Mj 9 (f := apprCells) (l := approveV (fpl gs) u (pathsL (fpl fs))) U U (fun _ => U) hget2 2 _ U))) U U U (Kp U U U U hg162 (gq (Je (Mc U U)) U U U (Kp U U U U hg152 (gq (Je (Jo U hg162 U)) U U U (gq (Jp U hg152 U) U U U (gq (Ji U) U U U ?_))))))
    refine Mn ?_
    refine hN37 _ _ (Jb [(9,.slice (some ⟨gP,0,none⟩) _ pv),(11,.slice _ _ _),(13,.slice _ _ _),(16,.slice _ _ _),(18,.slice _ _ _),(20,.int _ _),(21,.int _ _),(22,.bool _),(23,.int _ _)] ⟨U,U,U,U,U,U,U,U,U,O⟩ fun σ => Jk (Jd (Jf U) U U U (Jd (Kr U U ⟨by omega,by omega⟩) U U U (Jd (Jh U) U U U (Ja ?_)))))
    refine Kt (j + 1) (by omega) (show j + 1 ≤ _ by omega) ⟨(congrArg Value.bool (eqTo_yes hj1 he0 hp162)),U,trivial⟩ ⟨U,U,U,U,U,U,U,O⟩ ⟨_,U⟩
    have hp162 : ((pathsL (fpl fs))[j].toList == ((missV (r40 u) [] (fpl fs) (fpl gs))[n]).toList) = false := hg162
    refine Kg U U U U hg162 U U (Kg U U U U hg162 U U (Kg U U U U hg162 U U (Kg U U U U hg162 U U (Kg U U U U hg162 U U (Kg U U U U hg162 U U (Kg U U U U hg162 U U (Kg U U U U hg162 U U (Kg U U U U hg162 U U ?_))))))))
    refine Kg U U U U hg162 U U (Kp U U U U hg152 (gq (Je (Jp U hg162 U)) U U U (gq (Jp U hg152 U) U U U (gq (Ji U) U U U ?_))))
    refine Mn ?_
    refine hN37 _ _ (Jb [(9,.slice (some ⟨gP,0,none⟩) _ pv),(11,.slice _ _ _),(13,.slice _ _ _),(16,.slice _ _ _),(18,.slice _ _ _),(20,.int _ _),(21,.int _ _),(22,.bool _),(23,.int _ _)] ⟨U,U,U,U,U,U,U,U,U,O⟩ fun σ => Jk (Jd (Jf U) U U U (Jd (Kr U U ⟨by omega,by omega⟩) U U U (Jd (Jh U) U U U (Ja ?_)))))
    refine Kt (j + 1) (by omega) (show j + 1 ≤ _ by omega) ⟨(congrArg Value.bool (eqTo_no hj1 he0 hp162)),U,trivial⟩ ⟨U,U,U,U,U,U,U,O⟩ ⟨_,U⟩
    have he0 : eqTo (fpl fs) (fpl gs) ((missV (r40 u) [] (fpl fs) (fpl gs))[n]) (pathsL (fpl fs)) j = true := hg152
    refine Kg U U U U hg152 U U (Kg U U U U hg152 U U (Kg U U U U hg152 U U (Kg U U U U hg152 U U (Kg U U U U hg152 U U (Kg U U U U hg152 U U (Kg U U U U hg152 U U (Kg U U U U hg152 U U (Kg U U U U hg152 U U ?_))))))))
    refine Qs U U U U U U (Qs U U U U U U (Qs U U U U U U (Qs U U U U U U (Qs U U U U U U (Qs U U U U U U (Qs U U U U U U (Qs U U U U U U (Qs U U U U U U ?_))))))))
    refine Qs U U U U U U (Qs U U U U U U (Kg U U U U hg152 U U (gq (Jo U hg152 U) U U U (gq (Ji U) U U U ?_))))
    refine Mn ?_
    refine hN37 _ _ (Jb [(9,.slice (some ⟨gP,0,none⟩) _ pv),(11,.slice _ _ _),(13,.slice _ _ _),(16,.slice _ _ _),(18,.slice _ _ _),(20,.int _ _),(21,.int _ _),(22,.bool _),(23,.int _ _)] ⟨U,U,U,U,U,U,U,U,U,O⟩ fun σ => Jk (Jd (Jf U) U U U (Jd (Kr U U ⟨by omega,by omega⟩) U U U (Jd (Jh U) U U U (Ja ?_)))))
    refine Kt (j + 1) (by omega) (show j + 1 ≤ _ by omega) ⟨(congrArg Value.bool (eqTo_old hj1 he0)),U,trivial⟩ ⟨U,U,U,U,U,U,U,O⟩ ⟨_,U⟩
    replace hc148 := odf hc148
    have hcov := h4.cover hn1 hnB (j := j) (by omega)
    refine Mx ?_
    refine hN33 _ _ (Jb [(9,.slice Pv _ pv),(11,.slice _ _ _),(13,.slice _ _ _),(16,.slice _ _ _),(18,.slice _ _ _),(20,.int _ _),(21,.int _ _),(22,.bool _)] ⟨U,U,U,U,U,U,U,U,O⟩ fun σ => Jg fun N38 hN38 => Jk (Jd (Jn U) U U U (Jd (Mp U) U U U (Ja (hN38 _ _ (Jb [(9,.slice Pv _ pv),(11,.slice _ _ _),(13,.slice _ _ _),(16,.slice _ _ _),(18,.slice _ _ _),(20,.int _ _),(21,.int _ _),(177,.bool _)] ⟨U,U,U,U,U,U,U,U,O⟩ fun σ => ?_))))))
    refine Jt (b := _) U (fun hc177 => ?_) (fun hc177 => ?_)
    rw [hcov] at hc177; exact absurd hc177 (by decide)
    replace hc177 := Ue hc177
    refine Jw (hN28 _ _ (Jb [(9,.slice Pv _ pv),(11,.slice _ _ _),(13,.slice _ _ _),(16,.slice _ _ _),(18,.slice _ _ _),(20,.int _ _),(21,.int _ _)] ⟨U,U,U,U,U,U,U,O⟩ fun σ => Jk (Jd (Jf U) U U U (Jd (Kr U U ⟨by omega,by omega⟩) U U U (Jd (Jh U) U U U (Ja ?_))))))
    refine Kt ((n + 1,k)) (by show (missV (r40 u) [] (fpl fs) (fpl gs)).length - (n + 1) < (missV (r40 u) [] (fpl fs) (fpl gs)).length - n; omega) (hG2) ⟨U,U,O⟩ ⟨U,U,U,U,U,O⟩ ⟨_,U⟩
   have hg132d := odf hg132
   refine Kg U U U U hg132 U U (Kg U U U U hg132 U U (Kg U U U U hg132 U U (Kg U U U U hg132 U U (Kg U U U U hg132 U U (Kg U U U U hg132 U U (Kg U U U U hg132 U U (Kg U U U U hg132 U U (gq (Jp U hg132 U) U U U ?_))))))))
   refine Mn ?_
   refine hN30 _ _ (Jb [(9,.slice Pv _ pv),(11,.slice _ _ _),(13,.slice _ _ _),(16,.slice _ _ _),(18,.slice _ _ _),(20,.int _ _),(21,.int _ _),(142,.bool _)] ⟨U,U,U,U,U,U,U,U,O⟩ fun σ => ?_)
   refine Jt (b := _) U (fun hc142 => ?_) (fun hc142 => ?_)
   cases hc142
   have hns : ∀ hk9 : k < (missV (r40 u) (approveV (fpl fs) u (pathsL (fpl fs))) (fpl fs) (fpl gs)).length,(missV (r40 u) [] (fpl fs) (fpl gs))[n] ≠ (missV (r40 u) (approveV (fpl fs) u (pathsL (fpl fs))) (fpl fs) (fpl gs))[k] := by first | exact fun _ => sb_ne_f hc142 | exact fun hk9 => absurd hk9 (by omega)
   obtain ⟨hG2,hnB⟩ := hG.skip hn1 h4.nodup hns
   refine Jw (hN29 _ _ (Jb [(9,.slice Pv _ pv),(11,.slice _ _ _),(13,.slice _ _ _),(16,.slice _ _ _),(18,.slice _ _ _),(20,.int _ _),(21,.int _ _)] ⟨U,U,U,U,U,U,U,O⟩ fun σ => Jg fun N39 hN39 => Jk (Jd (Ji U) U U U (Ja (hN39 _ _ (Jb [(9,.slice Pv _ pv),(11,.slice _ _ _),(13,.slice _ _ _),(16,.slice _ _ _),(18,.slice _ _ _),(20,.int _ _),(21,.int _ _),(22,.bool _)] ⟨U,U,U,U,U,U,U,U,O⟩ fun σ => Jg fun N40 hN40 => Jg fun N41 hN41 => Jk (Jd (Jh U) U U U (Ja ?_))))))))
   refine hN41 _ _ (Jb [(9,.slice Pv _ pv),(11,.slice _ _ _),(13,.slice _ _ _),(16,.slice _ _ _),(18,.slice _ _ _),(20,.int _ _),(21,.int _ _),(22,.bool _),(23,.int _ _)] ⟨U,U,U,U,U,U,U,U,U,O⟩ fun σ => Kn ?_)
   refine Mm [(22,.bool _),(23,.int _ _)] [(9,.slice Pv _ pv),(11,.slice _ _ _),(13,.slice _ _ _),(16,.slice _ _ _),(18,.slice _ _ _),(20,.int _ _),(21,.int _ _)] ⟨U,U,O⟩ ⟨U,U,U,U,U,U,U,O⟩ fun σ => ?_
   refine Ml (G := Nat) (fun j => j ≤ (pathsL (fpl fs)).length) (fun j => (pathsL (fpl fs)).length - j) (fun j => [(22,.bool (eqTo (fpl fs) (fpl gs) ((missV (r40 u) [] (fpl fs) (fpl gs))[n]) (pathsL (fpl fs)) j)),(23,.int .i64 (j : Int))]) (fun j => []) (0) ?h0 ⟨U,U,O⟩ ⟨U,U,U,U,U,U,U,O⟩ U ?round
   case h0 => exact Nat.zero_le _
   case round =>
    intro j hφ σ
    have hj : j ≤ (pathsL (fpl fs)).length := hφ
    refine Jg fun N42 hN42 => Jg fun N43 hN43 => Jk (Jd (Jf U) U U U (Jd (Ju (v := .slice Pv _ pv) U) U U U (Jd (Ks Tryz.underlying22 U) U U U (Jd (Me U U) U U U (Ja (hN43 _ _ (Jb [(9,.slice Pv _ pv),(11,.slice _ _ _),(13,.slice _ _ _),(16,.slice _ _ _),(18,.slice _ _ _),(20,.int _ _),(21,.int _ _),(22,.bool _),(23,.int _ _),(148,.bool _)] ⟨U,U,U,U,U,U,U,U,U,U,O⟩ fun σ => ?_)))))))
    refine Jt (b := _) U (fun hc148 => ?_) (fun hc148 => ?_)
    replace hc148 := odt hc148
    have hj1 : j < (pathsL (fpl fs)).length := by omega
    obtain ⟨gP,rfl⟩ := hgP (by omega)
    obtain ⟨g63,rfl⟩ := hg63 (by omega)
    obtain ⟨g70,rfl⟩ := hg70 (by omega)
    have hget1 := Xf h4.a1 hj1
    have hget2 := Xf h4.a2 hj1
    refine Jw (hN42 _ _ (Jb [(9,.slice (some ⟨gP,0,none⟩) _ pv),(11,.slice _ _ _),(13,.slice _ _ _),(16,.slice _ _ _),(18,.slice _ _ _),(20,.int _ _),(21,.int _ _),(22,.bool _),(23,.int _ _)] ⟨U,U,U,U,U,U,U,U,U,O⟩ fun σ => Jg fun N44 hN44 => Kn ?_))
    refine Qx (by kernel_rfl) (by kernel_rfl) ?_
    refine gq (Jn U) U U U (gq (Jn U) U U U ?_)
    refine Xb (want := false) U U U U U U (fun hg152 => ?_) (fun hg152 => ?_)
    have he0 : eqTo (fpl fs) (fpl gs) ((missV (r40 u) [] (fpl fs) (fpl gs))[n]) (pathsL (fpl fs)) j = false := hg152
    refine gq (Je (Ju (v := .slice (some ⟨gP,0,none⟩) _ pv) U)) U U U (Kp U U U U hg152 (gq (Je (Jf U)) U U U (Kp U U U U hg152 (gq (Je (Jz (m := j) Tryz.underlying22 Tryz.sizeOf9 U U (by omega) (by omega) (by omega))) U U U (Kp U U U U hg152 ?_)))))
    refine gq (Je (Jq Tryz.isAgg9 U (Mj 6 (f := strCells) (l := pathsL (fpl fs)) U U (fun _ => U) (List.getElem?_eq_getElem hj1) 0 _ U))) U U U ?_
    refine Kp U U U U hg152 (gq (Je (Kl U)) U U U (Kp U U U U hg152 (gq (Je (Jf U)) U U U (Kp U U U U hg152 (gq (Je (Jz (m := n) Tryz.underlying22 Tryz.sizeOf9 U U (by omega) (by omega) (by omega))) U U U (Kp U U U U hg152 ?_))))))
    refine gq (Je (Jq Tryz.isAgg9 U (Mj 13 (f := strCells) (l := missV (r40 u) [] (fpl fs) (fpl gs)) U U (fun _ => U) (List.getElem?_eq_getElem hn1) 0 _ U))) U U U ?_
    refine Kp U U U U hg152 (gq (Je (Ur U U)) U U U (Kp U U U U hg152 (gq (Je (Jn U)) U U U ?_)))
    refine Xb (want := true) U U U U U U (fun hg162 => ?_) (fun hg162 => ?_)
    have hp162 : ((pathsL (fpl fs))[j].toList == ((missV (r40 u) [] (fpl fs) (fpl gs))[n]).toList) = true := hg162
    refine gq (Je (Kl U)) U U U (Kp U U U U hg162 (gq (Je (Jf U)) U U U (Kp U U U U hg162 (gq (Je (Jz (m := j) Tryz.underlying58 Tryz.sizeOf70 U U (by omega) (by omega) (by omega))) U U U (Kp U U U U hg162 (gq (Je (Kv UU U)) U U U (Kp U U U U hg162 (gq (Je (Jq Tryz.isAgg3 U (Mj 7 (f := apprCells) (l := approveV (fpl fs) u (pathsL (fpl fs))) U U (fun _ => U) hget1 2 _ U))) U U U ?_))))))))
    refine Kp U U U U hg162 (gq (Je (Kl U)) U U U (Kp U U U U hg162 (gq (Je (Jf U)) U U U (Kp U U U U hg162 (gq (Je (Jz (m := j) Tryz.underlying58 Tryz.sizeOf70 U U (by omega) (by omega) (by omega))) U U U (Kp U U U U hg162 (gq (Je (Kv UU U)) U U U (Kp U U U U hg162 ?_))))))))
    refine gq (Je (Jq Tryz.isAgg3 U (Mj 9 (f := apprCells) (l := approveV (fpl gs) u (pathsL (fpl fs))) U U (fun _ => U) hget2 2 _ U))) U U U (Kp U U U U hg162 (gq (Je (Mc U U)) U U U (Kp U U U U hg152 (gq (Je (Jo U hg162 U)) U U U (gq (Jp U hg152 U) U U U (gq (Ji U) U U U ?_))))))
    refine Mn ?_
    refine hN44 _ _ (Jb [(9,.slice (some ⟨gP,0,none⟩) _ pv),(11,.slice _ _ _),(13,.slice _ _ _),(16,.slice _ _ _),(18,.slice _ _ _),(20,.int _ _),(21,.int _ _),(22,.bool _),(23,.int _ _)] ⟨U,U,U,U,U,U,U,U,U,O⟩ fun σ => Jk (Jd (Jf U) U U U (Jd (Kr U U ⟨by omega,by omega⟩) U U U (Jd (Jh U) U U U (Ja ?_)))))
    refine Kt (j + 1) (by omega) (show j + 1 ≤ _ by omega) ⟨(congrArg Value.bool (eqTo_yes hj1 he0 hp162)),U,trivial⟩ ⟨U,U,U,U,U,U,U,O⟩ ⟨_,U⟩
    have hp162 : ((pathsL (fpl fs))[j].toList == ((missV (r40 u) [] (fpl fs) (fpl gs))[n]).toList) = false := hg162
    refine Kg U U U U hg162 U U (Kg U U U U hg162 U U (Kg U U U U hg162 U U (Kg U U U U hg162 U U (Kg U U U U hg162 U U (Kg U U U U hg162 U U (Kg U U U U hg162 U U (Kg U U U U hg162 U U (Kg U U U U hg162 U U ?_))))))))
    refine Kg U U U U hg162 U U (Kp U U U U hg152 (gq (Je (Jp U hg162 U)) U U U (gq (Jp U hg152 U) U U U (gq (Ji U) U U U ?_))))
    refine Mn ?_
    refine hN44 _ _ (Jb [(9,.slice (some ⟨gP,0,none⟩) _ pv),(11,.slice _ _ _),(13,.slice _ _ _),(16,.slice _ _ _),(18,.slice _ _ _),(20,.int _ _),(21,.int _ _),(22,.bool _),(23,.int _ _)] ⟨U,U,U,U,U,U,U,U,U,O⟩ fun σ => Jk (Jd (Jf U) U U U (Jd (Kr U U ⟨by omega,by omega⟩) U U U (Jd (Jh U) U U U (Ja ?_)))))
    refine Kt (j + 1) (by omega) (show j + 1 ≤ _ by omega) ⟨(congrArg Value.bool (eqTo_no hj1 he0 hp162)),U,trivial⟩ ⟨U,U,U,U,U,U,U,O⟩ ⟨_,U⟩
    have he0 : eqTo (fpl fs) (fpl gs) ((missV (r40 u) [] (fpl fs) (fpl gs))[n]) (pathsL (fpl fs)) j = true := hg152
    refine Kg U U U U hg152 U U (Kg U U U U hg152 U U (Kg U U U U hg152 U U (Kg U U U U hg152 U U (Kg U U U U hg152 U U (Kg U U U U hg152 U U (Kg U U U U hg152 U U (Kg U U U U hg152 U U (Kg U U U U hg152 U U ?_))))))))
    refine Qs U U U U U U (Qs U U U U U U (Qs U U U U U U (Qs U U U U U U (Qs U U U U U U (Qs U U U U U U (Qs U U U U U U (Qs U U U U U U (Qs U U U U U U ?_))))))))
    refine Qs U U U U U U (Qs U U U U U U (Kg U U U U hg152 U U (gq (Jo U hg152 U) U U U (gq (Ji U) U U U ?_))))
    refine Mn ?_
    refine hN44 _ _ (Jb [(9,.slice (some ⟨gP,0,none⟩) _ pv),(11,.slice _ _ _),(13,.slice _ _ _),(16,.slice _ _ _),(18,.slice _ _ _),(20,.int _ _),(21,.int _ _),(22,.bool _),(23,.int _ _)] ⟨U,U,U,U,U,U,U,U,U,O⟩ fun σ => Jk (Jd (Jf U) U U U (Jd (Kr U U ⟨by omega,by omega⟩) U U U (Jd (Jh U) U U U (Ja ?_)))))
    refine Kt (j + 1) (by omega) (show j + 1 ≤ _ by omega) ⟨(congrArg Value.bool (eqTo_old hj1 he0)),U,trivial⟩ ⟨U,U,U,U,U,U,U,O⟩ ⟨_,U⟩
    replace hc148 := odf hc148
    have hcov := h4.cover hn1 hnB (j := j) (by omega)
    refine Mx ?_
    refine hN40 _ _ (Jb [(9,.slice Pv _ pv),(11,.slice _ _ _),(13,.slice _ _ _),(16,.slice _ _ _),(18,.slice _ _ _),(20,.int _ _),(21,.int _ _),(22,.bool _)] ⟨U,U,U,U,U,U,U,U,O⟩ fun σ => Jg fun N45 hN45 => Jk (Jd (Jn U) U U U (Jd (Mp U) U U U (Ja (hN45 _ _ (Jb [(9,.slice Pv _ pv),(11,.slice _ _ _),(13,.slice _ _ _),(16,.slice _ _ _),(18,.slice _ _ _),(20,.int _ _),(21,.int _ _),(177,.bool _)] ⟨U,U,U,U,U,U,U,U,O⟩ fun σ => ?_))))))
    refine Jt (b := _) U (fun hc177 => ?_) (fun hc177 => ?_)
    rw [hcov] at hc177; exact absurd hc177 (by decide)
    replace hc177 := Ue hc177
    refine Jw (hN28 _ _ (Jb [(9,.slice Pv _ pv),(11,.slice _ _ _),(13,.slice _ _ _),(16,.slice _ _ _),(18,.slice _ _ _),(20,.int _ _),(21,.int _ _)] ⟨U,U,U,U,U,U,U,O⟩ fun σ => Jk (Jd (Jf U) U U U (Jd (Kr U U ⟨by omega,by omega⟩) U U U (Jd (Jh U) U U U (Ja ?_))))))
    refine Kt ((n + 1,k)) (by show (missV (r40 u) [] (fpl fs) (fpl gs)).length - (n + 1) < (missV (r40 u) [] (fpl fs) (fpl gs)).length - n; omega) (hG2) ⟨U,U,O⟩ ⟨U,U,U,U,U,O⟩ ⟨_,U⟩
   replace hc125 := odf hc125
   have hend := hG.done (by omega)
   refine Mx ?_
   refine hN24 _ _ (Jb [(18,.slice _ _ _),(20,.int _ _)] ⟨U,U,O⟩ fun σ => Jg fun N46 hN46 => Jk (Jd (Jf U) U U U (Jd (Kl U) U U U (Jd (Ks Tryz.underlying22 U) U U U (Jd (Mc U U) U U U (Jd (Ji U) U U U (Ja (hN46 _ _ ?_))))))))
   refine Jb [(6,.bool _)] ⟨U,O⟩ fun σ => ?_
   refine Ke fun w1 hM => ?_
   refine ⟨_,res1 rfl (rt (v := .bool _) rfl),?_⟩
   exact ⟨by rw [decide_eq_true (congrArg (Nat.cast (R := Int)) hend)],hM.low⟩
  exact absurd hg117 (by decide)
  first | exact absurd (odt hg88) (by rw [hva]; simp) | (rw [hva] at hg88; simp at hg88)
  exact absurd hg81 (by decide)
  exact absurd hg76 (by decide)
 have hg39d := odt hg39
 refine Jj U U U U hg39 U U (Jd (Jo U hg39 U) U U U (Ja (hN6 _ _ (Jb [(2,.int _ _),(3,.pointer _),(7,.pointer _),(42,.bool _)] ⟨U,U,U,U,O⟩ fun σ => ?_))))
 refine Jt (b := _) U (fun hc42 => ?_) (fun hc42 => ?_)
 refine Jg fun N47 hN47 => Jk (Jd (Ji U) U U U (Ja (hN47 _ _ (Jb [(6,.bool _)] ⟨U,O⟩ fun σ => ?_))))
 refine Ke fun w1 hM => ?_
 refine ⟨_,res1 rfl (rt (v := .bool _) rfl),?_⟩
 exact ⟨rfl,hM.low⟩
 cases hc42
 have hg35d := odt hg35
 refine Jj U U U U hg35 U U (Jd (Jo U hg35 U) U U U (Jd (Jn U) U U U (Jj U U U U U U U (Jj U U U U U U U (Jd (Jo U U U) U U U (Ja (hN6 _ _ (Jb [(2,.int _ _),(3,.pointer _),(7,.pointer _),(42,.bool _)] ⟨U,U,U,U,O⟩ fun σ => ?_))))))))
 refine Jt (b := _) U (fun hc42 => ?_) (fun hc42 => ?_)
 refine Jg fun N48 hN48 => Jk (Jd (Ji U) U U U (Ja (hN48 _ _ (Jb [(6,.bool _)] ⟨U,O⟩ fun σ => ?_))))
 refine Ke fun w1 hM => ?_
 refine ⟨_,res1 rfl (rt (v := .bool _) rfl),?_⟩
 exact ⟨rfl,hM.low⟩
 cases hc42
end Go.Proofs.YtbkameioedmlkaaGreatDoor
namespace Go.Cf
open Go.ChangeShapes Go.WideShapes Go.ChangeAt Go.RowKit Go.Deep
theorem law_lift_row {H : Type} {enc : TypeId × Value → H} {C : Checked} {os : Os} {f : FuncId} {fn : Func} {s : OpenSpec} {F : Stop.Interp} {conds : List PathCond} {tb : TypeId} {laid : List (String × DataW Unit)}
    (own : ownKnob C.prog.godebug = none) (started : os.Started) (noInit : C.prog.inits.idxOf? f = none) (hfn : C.prog.funcs[f]? = some fn)
    (witness : ∃ (w : World) (tape : Tape) (i : Input), w.os = os ∧ (w.forCall tape i).Shaped C.prog ∧ i.vars = [] ∧ Input.okWide C.prog (w.forCall tape i) .any w.heap.size f i ∧
      s.preRow enc C.prog fn conds false laid (w.forCall tape i).memory i.args ∧ Assume.holds {} C.prog (lone (Frame.enter C.prog f i.args .normal) [] (w.forCall tape i)))
    (hl : laidOutB C.prog = true) (hread : (fn.params.toList.all fun t => C.prog.readableRec t && decide (t < C.prog.types.size)) = true) (hres : fn.resultTypes = #[tb]) (htb : C.prog.underlying tb = some .bool) (hvars : s.vars = []) (hvars0 : (s.at F).vars = []) (hvt : s.bare.plain.varTypes C.prog = [])
    (hspec : ∀ ds : List (DataW H), ds.length = fn.params.size → ((s.at F).fn H (ds ++ [])).results = [.lit (.bool true)] ∧ ((s.at F).fn H (ds ++ [])).args = ds ∧ ((s.at F).fn H (ds ++ [])).vars = [])
    (contract : ∀ (W : World) (base : Nat) (args : Array Value) (ds : List (DataW H)) (p : List MemPlace),
      (∀ (j : Nat) t v, fn.params[j]? = some t → args[j]? = some v → Value.okWide C.prog W .any base t v) → DataW.TrodAll enc C.prog W 0 (fun _ => true) true fn.params.toList args.toList ds p →
      (DataW.weightsEach C.prog fn.params.toList ds).all (· ≤ reachBytes) = true → (∀ k, s.cond = some k → k H ds = true) → laidMetH C.prog laid W →
      Calls C.prog f args W fun e W' => e = .returned (.bool true) ∧ Below W.heap.size W W') :
    ReturnsInHanded {} C os f .any (s.preRow enc C.prog fn conds false laid) ((s.at F).post enc C.prog fn false true false false) := by
  refine returnsInHanded_of_row own started noInit hfn witness ?_
  intro W base args ds gs before hval hW _ hkk hsz hL _ _
  have hW' := hW
  obtain ⟨p, q, hA, hV, rfl, _, _⟩ := hW
  rw [hvars] at hV
  obtain ⟨rfl, rfl⟩ := trodVars_none hV
  have hlen : ds.length = fn.params.size := by
    have key : ∀ (ts : List TypeId) (vs : List Value) (ds : List (DataW H)) (p : List MemPlace), DataW.TrodAll enc C.prog W 0 (fun _ => true) true ts vs ds p → ds.length = ts.length := by
      intro ts
      induction ts with
      | nil => intro vs ds p h; obtain ⟨_, rfl, _⟩ := trodAll_nil h; rfl
      | cons t ts ih => intro vs ds p h; obtain ⟨v, vs', d, ds', p, q, rfl, rfl, rfl, _, h2⟩ := trodAll_cons h; simp [ih _ _ _ h2]
    rw [key _ _ _ _ hA]; simp
  have hw : (DataW.weightsEach C.prog fn.params.toList ds).all (· ≤ reachBytes) = true := by
    simpa [hvt] using hsz
  refine (contract W base args ds p hval hA hw (fun k hk => by simpa using hkk k hk) hL).mono fun e W' ⟨he, bel⟩ => ?_
  subst he
  obtain ⟨h1, h2, h3⟩ := hspec ds hlen
  have hr : ∀ t ∈ fn.params.toList, C.prog.readableRec t = true ∧ t < C.prog.types.size := by
    intro t ht
    have := List.all_eq_true.1 hread t ht
    simpa using this
  refine ⟨_, rfl, ds, [], p ++ [], [], p, [], hW', ?_, ?_, ?_, World.keptBut_mono (fun x hx => ⟨hx, ?_⟩) (bel.frame (· ∈ p ++ [])), fun h => by cases h⟩
  · rw [h1, hres]; exact trodAll_mk1 (shut_bool htb _)
  · rw [h2]; exact MU hl bel hr hA
  · rw [h3, hvars0]; rfl
  · right; left; simpa using hx
end Go.Cf
namespace Go.Proofs.YtbkameioedmlkaaGreatDoor
open Go.ChangeShapes Go.WideShapes Go.ChangeAt Go.RowKit Go.Cf
set_option maxRecDepth 10000
theorem ce_str : Tryz.prog.cellsOf 9 = 1 := by kernel_rfl
theorem by_str : Tryz.prog.bytesOf 9 = 16 := by kernel_rfl
end Go.Proofs.YtbkameioedmlkaaGreatDoor
namespace Go.Proofs.YtbkameioedmlkaaGreatDoor
open Go.ChangeShapes Go.WideShapes Go.ChangeAt Go.RowKit Go.Cf
set_option maxRecDepth 10000
theorem ce_strs : Tryz.prog.cellsOf 22 = 1 := by kernel_rfl
theorem ce_int : Tryz.prog.cellsOf 3 = 1 := by kernel_rfl
theorem ce_files : Tryz.prog.cellsOf 59 = 1 := by kernel_rfl
theorem by_file : Tryz.prog.bytesOf 85 = 40 := by kernel_rfl
theorem el_file {H : Type} {enc : TypeId × Value → H} {w : World} : ∀ (n : Nat) (cs : List Value) (x : DataW H × List MemPlace), DataW.trod enc Tryz.prog w 0 (fun _ => true) true n 85 cs = some x →
    (x.1.weights Tryz.prog 85).all (· ≤ reachBytes) = true → ∃ a : FileC, cs = fileCells a ∧ FileR w 0 a := by
  intro n cs x h hw
  obtain ⟨m, hlen, hf⟩ := Xh Tryz.underlying85 h hw
  have hl : cs.length = 2 := hlen.trans (by kernel_rfl)
  match cs, hl with
  | [c0, c1], _ =>
    obtain ⟨y0, f0, w0⟩ := hf 0 _ rfl
    obtain ⟨y1, f1, w1⟩ := hf 1 _ rfl
    simp [ce_str, ce_strs] at f0 f1
    obtain ⟨a0, e0, _⟩ := UW Tryz.underlying9 m _ _ f0 w0
    obtain ⟨A1, c1', l1, e1, r1, s1, m1, n1, t1, _⟩ := Xo Tryz.underlying22 (by kernel_rfl) (UW Tryz.underlying9) f1 w1
    simp at e0 e1
    subst e0 e1
    rw [by_str] at t1
    exact ⟨⟨⟨a0, l1⟩, A1, c1'⟩, rfl, ⟨r1, ⟨s1, m1, n1, Nat.le_trans (Nat.mul_le_mul_right _ s1) t1⟩⟩⟩
structure FsC' where
  A : Option Addr
  c : Nat
  fs : List FileC
abbrev treeCells (x : FsC') : List Value := [.slice x.A x.fs.length x.c]
theorem el_tree {H : Type} {enc : TypeId × Value → H} {w : World} : ∀ (n : Nat) (cs : List Value) (x : DataW H × List MemPlace), DataW.trod enc Tryz.prog w 0 (fun _ => true) true n 61 cs = some x →
    (x.1.weights Tryz.prog 61).all (· ≤ reachBytes) = true → ∃ a : FsC', cs = treeCells a ∧ TreeR w 0 a.A a.c a.fs := by
  intro n cs x h hw
  obtain ⟨m, hlen, hf⟩ := Xh Tryz.underlying61 h hw
  have hl : cs.length = 1 := hlen.trans (by kernel_rfl)
  match cs, hl with
  | [c0], _ =>
    obtain ⟨y0, f0, w0⟩ := hf 0 _ rfl
    simp [ce_files] at f0
    obtain ⟨A1, c1', l1, e1, r1, s1, m1, n1, t1, q1⟩ := Xo Tryz.underlying59 (by kernel_rfl) el_file f0 w0
    simp at e1
    subst e1
    rw [by_file] at t1
    exact ⟨⟨A1, c1', l1⟩, rfl, ⟨r1, q1, ⟨s1, m1, n1, Nat.le_trans (Nat.mul_le_mul_right _ s1) t1⟩⟩⟩
end Go.Proofs.YtbkameioedmlkaaGreatDoor
namespace Go.Proofs.YtbkameioedmlkaaGreatDoor
open Go.ChangeShapes Go.WideShapes Go.ChangeAt Go.RowKit Go.Cf
set_option maxRecDepth 10000
theorem te_hunks : Tryz.prog.cellsOf 25 = 1 := by kernel_rfl
theorem te_byhunk : Tryz.prog.bytesOf 92 = 56 := by kernel_rfl
theorem te_hunk {H : Type} {enc : TypeId × Value → H} {w : World} : ∀ (n : Nat) (cs : List Value) (x : DataW H × List MemPlace), DataW.trod enc Tryz.prog w 0 (fun _ => true) true n 92 cs = some x →
    (x.1.weights Tryz.prog 92).all (· ≤ reachBytes) = true → ∃ a : HunkC, cs = hunkCells a ∧ HunkR w 0 a := by
  intro n cs x h hw
  obtain ⟨m, hlen, hf⟩ := Xh Tryz.underlying92 h hw
  have hl : cs.length = 3 := hlen.trans (by kernel_rfl)
  match cs, hl with
  | [c0, c1, c2], _ =>
    obtain ⟨y0, f0, _⟩ := hf 0 _ rfl
    obtain ⟨y1, f1, w1⟩ := hf 1 _ rfl
    obtain ⟨y2, f2, w2⟩ := hf 2 _ rfl
    simp [ce_int, ce_strs] at f0 f1 f2
    obtain ⟨a0, e0, _, b0⟩ := DataW.trod_int Tryz.underlying3 f0
    obtain ⟨A1, c1', l1, e1, r1, s1, m1, n1, t1, _⟩ := Xo Tryz.underlying22 (by kernel_rfl) (UW Tryz.underlying9) f1 w1
    obtain ⟨A2, c2', l2, e2, r2, s2, m2, n2, t2, _⟩ := Xo Tryz.underlying22 (by kernel_rfl) (UW Tryz.underlying9) f2 w2
    simp at e0 e1 e2
    subst e0 e1 e2
    rw [by_str] at t1 t2
    exact ⟨⟨⟨a0, l1, l2⟩, A1, c1', A2, c2'⟩, rfl, ⟨r1, r2, ⟨s1, m1, n1, Nat.le_trans (Nat.mul_le_mul_right _ s1) t1⟩, ⟨s2, m2, n2, Nat.le_trans (Nat.mul_le_mul_right _ s2) t2⟩, wf_in64 b0⟩⟩
theorem te_pat {H : Type} {enc : TypeId × Value → H} {w : World} : ∀ (n : Nat) (cs : List Value) (x : DataW H × List MemPlace), DataW.trod enc Tryz.prog w 0 (fun _ => true) true n 27 cs = some x →
    (x.1.weights Tryz.prog 27).all (· ≤ reachBytes) = true → ∃ a : PatC, cs = patCells a ∧ PatR w 0 a.A a.c a.hs := by
  intro n cs x h hw
  obtain ⟨m, hlen, hf⟩ := Xh Tryz.underlying27 h hw
  have hl : cs.length = 1 := hlen.trans (by kernel_rfl)
  match cs, hl with
  | [c0], _ =>
    obtain ⟨y0, f0, w0⟩ := hf 0 _ rfl
    simp [te_hunks] at f0
    obtain ⟨A1, c1', l1, e1, r1, s1, m1, n1, t1, q1⟩ := Xo Tryz.underlying25 (by kernel_rfl) te_hunk f0 w0
    simp at e1
    subst e1
    rw [te_byhunk] at t1
    exact ⟨⟨A1, c1', l1⟩, rfl, ⟨r1, q1, ⟨s1, m1, n1, Nat.le_trans (Nat.mul_le_mul_right _ s1) t1⟩⟩⟩
theorem te_cepat : Tryz.prog.cellsOf 27 = 1 := by kernel_rfl
theorem te_cechgs : Tryz.prog.cellsOf 79 = 1 := by kernel_rfl
theorem te_chg {H : Type} {enc : TypeId × Value → H} {w : World} : ∀ (n : Nat) (cs : List Value) (x : DataW H × List MemPlace), DataW.trod enc Tryz.prog w 0 (fun _ => true) true n 118 cs = some x →
    (x.1.weights Tryz.prog 118).all (· ≤ reachBytes) = true → ∃ a : ChgC, cs = chgCells a ∧ ChgR w 0 a := by
  intro n cs x h hw
  obtain ⟨m, hlen, hf⟩ := Xh Tryz.underlying118 h hw
  have hl : cs.length = 5 := hlen.trans (by kernel_rfl)
  match cs, hl with
  | [c0, c1, c2, c3, c4], _ =>
    obtain ⟨y0, f0, _⟩ := hf 0 _ rfl
    obtain ⟨y1, f1, w1⟩ := hf 1 _ rfl
    obtain ⟨y2, f2, w2⟩ := hf 2 _ rfl
    obtain ⟨y3, f3, w3⟩ := hf 3 _ rfl
    obtain ⟨y4, f4, w4⟩ := hf 4 _ rfl
    simp [ce_int, ce_str, ce_strs, te_cepat] at f0 f1 f2 f3 f4
    obtain ⟨a0, e0, _, _⟩ := DataW.trod_int Tryz.underlying3 f0
    obtain ⟨a1, e1, _⟩ := UW Tryz.underlying9 m _ _ f1 w1
    obtain ⟨a2, e2, _⟩ := UW Tryz.underlying9 m _ _ f2 w2
    obtain ⟨A3, c3', l3, e3, r3, s3, m3, n3, t3, _⟩ := Xo Tryz.underlying22 (by kernel_rfl) (UW Tryz.underlying9) f3 w3
    obtain ⟨a4, e4, hp⟩ := te_pat _ _ _ f4 w4
    simp at e0 e1 e2 e3 e4
    subst e0 e1 e2 e3 e4
    rw [by_str] at t3
    exact ⟨⟨a0, a1, a2, A3, c3', l3, a4.A, a4.c, a4.hs⟩, rfl, ⟨r3, ⟨s3, m3, n3, Nat.le_trans (Nat.mul_le_mul_right _ s3) t3⟩, hp⟩⟩
structure ChgsC where
  A : Option Addr
  c : Nat
  l : List ChgC
abbrev tpatCells (x : ChgsC) : List Value := [.slice x.A x.l.length x.c]
structure TPatR (w : World) (x : ChgsC) : Prop where
  rd : Rdl w 0 5 chgCells x.A x.l
  each : ∀ y ∈ x.l, ChgR w 0 y
  len : x.l.length ≤ maxLen
theorem el_tpat {H : Type} {enc : TypeId × Value → H} {w : World} : ∀ (n : Nat) (cs : List Value) (x : DataW H × List MemPlace), DataW.trod enc Tryz.prog w 0 (fun _ => true) true n 81 cs = some x →
    (x.1.weights Tryz.prog 81).all (· ≤ reachBytes) = true → ∃ a : ChgsC, cs = tpatCells a ∧ TPatR w a := by
  intro n cs x h hw
  obtain ⟨m, hlen, hf⟩ := Xh Tryz.underlying81 h hw
  have hl : cs.length = 1 := hlen.trans (by kernel_rfl)
  match cs, hl with
  | [c0], _ =>
    obtain ⟨y0, f0, w0⟩ := hf 0 _ rfl
    simp [te_cechgs] at f0
    obtain ⟨A1, c1', l1, e1, r1, s1, m1, n1, t1, q1⟩ := Xo Tryz.underlying79 (by kernel_rfl) te_chg f0 w0
    simp at e1
    subst e1
    exact ⟨⟨A1, c1', l1⟩, rfl, ⟨r1, q1, Nat.le_trans s1 m1⟩⟩
end Go.Proofs.YtbkameioedmlkaaGreatDoor
namespace Go.Proofs.YtbkameioedmlkaaGreatDoor
open Go.RowKit Go.Cf
theorem errRow (u : TypeId) (h : Tryz.prog.typeName? 3 u = some "*errors.errorString") : u = 252 := by
  have star : "*" ++ "errors.errorString" = "*errors.errorString" := by decide
  exact typeName_ptr_named (nm := "errors.errorString") (by rw [star]; kernel_rfl) (by kernel_rfl) (by decide) u (by rw [star]; exact h)
theorem laidP_of {W : World} (h : laidMetH Tryz.prog [("math/bits.deBruijn32tab", Rows.laid_math_bits_deBruijn32tab), ("math/bits.deBruijn64tab", Rows.laid_math_bits_deBruijn64tab), ("internal/strconv.uint64pow10", Rows.laid_internal_strconv_uint64pow10), ("unicode/utf8.acceptRanges", Rows.laid_unicode_utf8_acceptRanges), ("strconv.ErrRange", Rows.laid_strconv_ErrRange), ("strconv.ErrSyntax", Rows.laid_strconv_ErrSyntax), ("unicode/utf8.first", Rows.laid_unicode_utf8_first)] W) : LaidP W := by
  rw [MakeChecks.laidMetH_plain _ _ _ (by kernel_rfl)] at h
  have h2 := h.tail.tail
  have gT : Tryz.prog.globalNamed "internal/strconv.uint64pow10" = some 5 := by kernel_rfl
  have gR : Tryz.prog.globalNamed "strconv.ErrRange" = some 4 := by kernel_rfl
  have gS : Tryz.prog.globalNamed "strconv.ErrSyntax" = some 3 := by kernel_rfl
  have hT : Lib.TabIs Tryz.prog W "internal/strconv.uint64pow10" .u64 Lib.pow10Tab := Lib.tabIs_of_head gT (t := 256) (by kernel_rfl) Tryz.underlying256 Tryz.underlying201 (by kernel_rfl) (by kernel_rfl) h2
  obtain ⟨a1, s1, hv1, -, -, -⟩ := laid_sentinel h2.tail.tail gR (by kernel_rfl) Tryz.underlying211 errRow Tryz.underlying252 Tryz.underlying254 rfl rfl Tryz.underlying9 (by kernel_rfl) (by kernel_rfl)
  obtain ⟨a2, s2, hv2, -, -, -⟩ := laid_sentinel h2.tail.tail.tail gS (by kernel_rfl) Tryz.underlying211 errRow Tryz.underlying252 Tryz.underlying254 rfl rfl Tryz.underlying9 (by kernel_rfl) (by kernel_rfl)
  have c1 : W.cell? ⟨4, 0, none⟩ = some (.iface 252 (.pointer (some a1))) := by have h0 := World.var?_cell gR hv1 0; simpa using h0
  have c2 : W.cell? ⟨3, 0, none⟩ = some (.iface 252 (.pointer (some a2))) := by have h0 := World.var?_cell gS hv2 0; simpa using h0
  have c3 := hT.cell gT 0 (by decide)
  have b1 := World.block_lt_of_cell? W _ c1
  have b2 := World.block_lt_of_cell? W _ c2
  have b3 := World.block_lt_of_cell? W _ c3
  simp only at b1 b2 b3
  exact ⟨hT, ⟨_, _, c2⟩, ⟨_, _, c1⟩, by omega⟩
end Go.Proofs.YtbkameioedmlkaaGreatDoor
namespace Go.Proofs.YtbkameioedmlkaaGreatDoor
open Go.ChangeShapes Go.WideShapes Go.ChangeAt Go.RowKit Go.Cf
set_option maxRecDepth 100000 in
theorem Wo (os : Os) (started : os.Started) (H : Type) (enc : TypeId × Value → H) (F : Stop.Interp) :
    ReturnsInHanded {} Tryz.checked os 6 .any ((OpenSpec.ofChange Rows.topOldApprovalsDoNotCoverSpec).preRow enc Tryz.prog Tryz.f6 Rows.topOldApprovalsDoNotCoverRow.domain false Rows.topOldApprovalsDoNotCoverRow.laid) (((OpenSpec.ofChange Rows.topOldApprovalsDoNotCoverSpec).at F).post enc Tryz.prog Tryz.f6 false true false false) := by
  refine law_lift_row (C := Tryz.checked) (s := OpenSpec.ofChange Rows.topOldApprovalsDoNotCoverSpec) (tb := 4) (by kernel_rfl) started (by kernel_rfl) Tryz.func6
    (witness_row_at (enc := enc) (C := Tryz.checked) false ({ (World.holding Tryz.prog os ⟨#[.cells #[.string ⟨#[118, 97, 108, 117, 101, 32, 111, 117, 116, 32, 111, 102, 32, 114, 97, 110, 103, 101]⟩] 254, .cells #[.string ⟨#[105, 110, 118, 97, 108, 105, 100, 32, 115, 121, 110, 116, 97, 120]⟩] 254], #[], []⟩) with heap := ((((((((World.holding Tryz.prog os ⟨#[.cells #[.string ⟨#[118, 97, 108, 117, 101, 32, 111, 117, 116, 32, 111, 102, 32, 114, 97, 110, 103, 101]⟩] 254, .cells #[.string ⟨#[105, 110, 118, 97, 108, 105, 100, 32, 115, 121, 110, 116, 97, 120]⟩] 254], #[], []⟩).heap).modify 1 (fun | .cells _ t fz => .cells ((Go.Pinned.utf8FirstZ.map fun n : Nat => Value.int .u8 (n : Int)).toArray) t fz | o => o)).modify 2 (fun | .cells _ t fz => .cells ((([128, 191, 160, 191, 128, 159, 144, 191, 128, 143, 0, 0, 0, 0, 0, 0, 0, 0, 0, 0, 0, 0, 0, 0, 0, 0, 0, 0, 0, 0, 0, 0] : List Nat).map fun n : Nat => Value.int .u8 (n : Int)).toArray) t fz | o => o)).modify 6 (fun | .cells _ t fz => .cells ((([0, 1, 28, 2, 29, 14, 24, 3, 30, 22, 20, 15, 25, 17, 4, 8, 31, 27, 13, 23, 21, 19, 16, 7, 26, 12, 18, 6, 11, 5, 10, 9] : List Nat).map fun n : Nat => Value.int .u8 (n : Int)).toArray) t fz | o => o)).modify 7 (fun | .cells _ t fz => .cells ((([0, 1, 56, 2, 57, 49, 28, 3, 61, 58, 42, 50, 38, 29, 17, 4, 62, 47, 59, 36, 45, 43, 51, 22, 53, 39, 33, 30, 24, 18, 12, 5, 63, 55, 48, 27, 60, 41, 37, 16, 46, 35, 44, 21, 52, 32, 23, 11, 54, 26, 40, 15, 34, 20, 31, 10, 25, 14, 19, 9, 13, 8, 7, 6] : List Nat).map fun n : Nat => Value.int .u8 (n : Int)).toArray) t fz | o => o)).modify 5 (fun | .cells _ t fz => .cells ((([1, 10, 100, 1000, 10000, 100000, 1000000, 10000000, 100000000, 1000000000, 10000000000, 100000000000, 1000000000000, 10000000000000, 100000000000000, 1000000000000000, 10000000000000000, 100000000000000000, 1000000000000000000, 10000000000000000000] : List Nat).map fun n : Nat => Value.int .u64 (n : Int)).toArray) t fz | o => o)).modify 4 (fun | .cells _ t fz => .cells (#[.iface 252 (.pointer (some ⟨13, 0, none⟩))]) t fz | o => o)).modify 3 (fun | .cells _ t fz => .cells (#[.iface 252 (.pointer (some ⟨14, 0, none⟩))]) t fz | o => o) } : World) #[.agg #[.slice none 0 0], .agg #[.slice none 0 0], .int .i64 0] rfl (by kernel_rfl) (by kernel_rfl) (by kernel_rfl)
      (OpenSpec.preRow_of_cond 8 (show DataW.whole enc Tryz.prog _ Tryz.f6.params.toList _ false _ 8 = some ([.agg [.nil], .agg [.nil], .lit (.int .i64 0)], [], []) by kernel_rfl) (by kernel_rfl) (fun k hk => by cases hk) (by kernel_rfl) (laidMet_of_run' 8 (by kernel_rfl) (by kernel_rfl))))
    (by kernel_rfl) (by kernel_rfl) (by kernel_rfl) Tryz.underlying4 rfl rfl rfl ?_ ?_
  · intro ds hds
    rw [show Tryz.f6.params.size = 3 from by rw [Tryz.params6]; rfl] at hds
    match ds, hds with
    | [d0, d1, d2], _ => exact ⟨rfl, rfl, rfl⟩
  · intro W base args ds p hval hA hw hk hL
    rw [show Tryz.f6.params.toList = [61, 81, 3] from by rw [Tryz.params6]] at hA hw
    rw [Tryz.params6] at hval
    obtain ⟨v0, vs0, d0, ds0, p0, q0, hargs, rfl, rfl, h0, r0⟩ := trodAll_cons hA
    obtain ⟨v1, vs1, d1, ds1, p1, q1, rfl, rfl, rfl, h1, r1⟩ := trodAll_cons r0
    obtain ⟨v2, vs2, d2, ds2, p2, q2, rfl, rfl, rfl, h2, r2⟩ := trodAll_cons r1
    obtain ⟨rfl, rfl, rfl⟩ := trodAll_nil r2
    obtain rfl : args = #[v0, v1, v2] := by cases args; simp_all
    obtain ⟨w0, hw⟩ := Wm hw
    obtain ⟨w1, hw⟩ := Wm hw
    obtain ⟨w2, hw⟩ := Wm hw
    obtain ⟨⟨A0, c0, l0⟩, rfl, hT0⟩ := rd_agg Tryz.underlying61 el_tree (hval 0 61 v0 rfl rfl) h0 w0
    obtain ⟨⟨A1, c1, l1⟩, rfl, hP1⟩ := rd_agg Tryz.underlying81 el_tpat (hval 1 81 v1 rfl rfl) h1 w1
    obtain ⟨n2, rfl, hi2⟩ := rd_int Tryz.underlying3 (hval 2 3 v2 rfl rfl) h2
    exact law40_any W A0 c0 l0 hT0 A1 c1 l1 hP1.rd hP1.each hP1.len n2 (laidP_of hL)
theorem Wv : Rows.TopOldApprovalsDoNotCoverSaid :=
  OpenClaim.holds_of_cond 6 Tryz.f6 rfl rfl rfl rfl rfl rfl rfl ⟨rfl, rfl, rfl, rfl, rfl⟩ rfl rfl rfl rfl rfl (by kernel_rfl) Tryz.func6 (by kernel_rfl)
    (of_decide_eq_true (by kernel_rfl)) (by unfold Func.isWrapper; first | (rw [if_pos (by decide +kernel)]; kernel_rfl) | (rw [if_neg (by decide +kernel)]; exact ⟨rfl, rfl⟩))
    (fun os started H enc _ F => by rw [OpenClaim.pre_eq_preRow]; exact Wo os started H enc F)
theorem Wu (f : FuncId) (fn : Func) (hf : Tryz.pinned.checked.prog.funcNamed "changeforge/changeforgetop.TopOldApprovalsDoNotCover" = some f) (hfn : Tryz.pinned.checked.prog.funcs[f]? = some fn) :
    true = Tryz.pinned.checked.prog.looks [] ∧ ∀ (j : Nat) t, fn.params[j]? = some t → Tryz.pinned.checked.prog.wantsStandIn t = false := by
  obtain rfl : f = 6 := Option.some.inj ((show Tryz.prog.funcNamed "changeforge/changeforgetop.TopOldApprovalsDoNotCover" = some 6 by kernel_rfl).symm.trans hf) |>.symm
  obtain rfl : fn = Tryz.f6 := (Option.some.inj (Tryz.func6.symm.trans hfn)).symm
  refine ⟨by kernel_rfl, fun j t ht => ?_⟩
  rw [Tryz.params6] at ht
  have hm : t ∈ [61, 81, 3] := by simpa using Array.mem_of_getElem? ht
  have hall : ([61, 81, 3].all fun u => !Tryz.prog.wantsStandIn u) = true := by kernel_rfl
  exact (show Tryz.prog.wantsStandIn t = false by simpa using List.all_eq_true.1 hall t hm)
theorem topOldApprovalsDoNotCover_holds : Rows.TopOldApprovalsDoNotCoverCardSaid :=
  Claim7.holds_tied_plain_at .later [] _ _ _ _ Wv (fun _ h => by cases h) (by kernel_rfl) (fun _ h => by cases h) topOldApprovalsDoNotCover_row_tie rfl ⟨rfl, rfl⟩ (by kernel_rfl) rfl Wu (by kernel_rfl)
end Go.Proofs.YtbkameioedmlkaaGreatDoor
