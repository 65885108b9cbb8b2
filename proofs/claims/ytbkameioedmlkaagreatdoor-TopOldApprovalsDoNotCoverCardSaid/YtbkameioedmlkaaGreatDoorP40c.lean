/- Own frame, plain models and walks, part 3 (texts of this claim put together). -/
import Derived.Test.YtbkameioedmlkaaGreatDoorP40b
import Derived.ChangeKeysEq
import Derived.Ground.Names2Prog
import Derived.Ground.SlgnProg
import Derived.Shelf.LaysC
import Derived.Shelf.LaysM
import Derived.Shelf.Slices.Cells
import Derived.Shelf.Slices.Clone
import Derived.Shelf.Slices.CompactS
import Derived.Shelf.Slices.In.SortNone
import Derived.Shelf.SlicesE.Clone
import Derived.Shelf.Small.Bits
import Derived.Shelf.Small.Strs
import Derived.Shelf.Sort.Plain
import Derived.Shelf.Strconv.Atoi
import Derived.Shelf.Strconv.AtoiAll
import Derived.Shelf.Strconv.AtoiErrFast
import Derived.Shelf.Strconv.AtoiFail
import Derived.Shelf.Strconv.AtoiInnerAll
import Derived.Shelf.Strconv.AtoiLong
import Derived.Shelf.Strconv.Clone
import Derived.Shelf.Strconv.ErrVarAll
import Derived.Shelf.Strconv.Itoa0
import Derived.Shelf.Strconv.Itoa1
import Derived.Shelf.Strconv.Itoa2
import Derived.Shelf.Strconv.Itoa3
import Derived.Shelf.Strconv.Lower
import Derived.Shelf.Strconv.ParseInt10
import Derived.Shelf.Strconv.ParseIntEmpty
import Derived.Shelf.Strconv.ParseUint10
import Derived.Shelf.Strconv.ParseUint10Any
import Derived.Shelf.Strconv.ParseUint10Empty
import Derived.Shelf.Strconv.RangeError
import Derived.Shelf.Strconv.SyntaxError
import Derived.Shelf.Strconv.ToError
import Derived.Shelf.Strconv.ToErrorRange
import Derived.Shelf.Strings.Count
import Derived.Shelf.Strings.Explode
import Derived.Shelf.Strings.Prefix
import Derived.Shelf.Strings.RuneCount
import Derived.Shelf.Strings.Search1
import Derived.Shelf.Strings.Search2
import Derived.Shelf.Strings.Search3
import Derived.Shelf.Strings.Shaped
import Derived.Shelf.Strings.Split
import Derived.Shelf.Strings.SplitShaped
import Derived.Shelf.Unicode.Decode
import Derived.Shelf.Unicode.DecodeAny
import Derived.Shelf.Unicode.DecodeSlow
import Derived.Shelf.Utf8.RuneCount
import Derived.Test.YtbkameioedmlkaaGreatDoorProg
import Derived.Test.YtbkameioedmlkaaGreatDoorRows
namespace Go.Proofs.YtbkameioedmlkaaGreatDoor
open Go.RowKit Go.Cf
set_option maxRecDepth 10000
theorem Ma (x1 : Int) (x2 : Int) : Tryz.prog.built 33 [(0, .int .i64 x1), (1, .int .i64 x2)] = some #[.int .i64 x1, .int .i64 x2] := by kernel_rfl
theorem Qh  : Tryz.prog.built 33 [] = some #[.int .i64 0, .int .i64 0] := by kernel_rfl
set_option maxHeartbeats 1000000 in
theorem validate_any (w : World) (s : ByteArray) : Calls Tryz.prog 102 #[.string s] w fun e w' => e = .returned (fv (patFault s)) ∧ Below w.heap.size w w' := by
 refine Kz Tryz.func102 U Tryz.ntmps102 (leb U) ?_
 refine Jb [(0,.string _)] ⟨U,O⟩ fun σ => Jg fun N1 hN1 => Jk ?_
 refine Ka (cs := #[.int .i64 0,.int .i64 0]) Tryz.zeroValue33 U U (fun b2 hb2 => ?_)
 refine Ja (hN1 _ _ (gT [box b2 _] U (Jb [(0,.string _),(2,.pointer _)] ⟨U,U,O⟩ fun σ => Jg fun N2 hN2 => Jg fun N3 hN3 => Jk (Jd (Ku U) U U U (Jd (Qt Tryz.underlying9 U) U U U (Jd (Mh U U) U U U (Ja (hN3 _ _ ?_))))))))
 refine Jb [(0,.string _),(2,.pointer _),(7,.bool _)] ⟨U,U,U,O⟩ fun σ => ?_
 refine Jt (b := _) U (fun hc7 => ?_) (fun hc7 => ?_)
 replace hc7 := odt hc7
 refine Jg fun N4 hN4 => Jk (Jd (Kd (vs := [(0,_),(1,_)]) (cells := #[_,_]) U (Ma _ _)) U U U (Jr 0 (v := .agg #[_,_]) (cs' := #[_,_]) U U Tryz.sizeOf33 U U U U (leb U) U U (Ja (hN4 _ _ (gT [box b2 _] U (Jb [(2,.pointer _)] ⟨U,O⟩ fun σ => ?_))))))
 refine Ke fun w1 hM => ?_
 refine ⟨_,res1 rfl (rc 0 (cs := [_,_]) hM rfl rfl Tryz.isAgg33 Tryz.sizeOf33 rfl),?_⟩
 exact ⟨by unfold patFault patCode; rw [if_pos (show 60 < s.size by omega)]; rfl,hM.low⟩
 replace hc7 := odf hc7
 refine Jw (hN2 _ _ (Jb [(0,.string _),(2,.pointer _)] ⟨U,U,O⟩ fun σ => ?_))
 refine gseqAB fun N5 hN5 => ?_
 refine Jk (Jd (Ku U) U U U ?_)
 refine My (fun v T' => ∃ c1 c2 c3,v = .func (.func 135) #[] #[.pointer (some ⟨c1,0,none⟩),.pointer (some ⟨c2,0,none⟩),.pointer (some ⟨c3,0,none⟩)] ∧ T' = [box c2 (.cells #[.string s] 9),box c1 (.cells #[.string ⟨#[47]⟩] 9),box c3 (.cells #[.int .i64 0] 3)]) (Kb (vs := [.string _,_]) Tryz.func81 U (by kernel_rfl) U) (fun w hM => MX w s) U U U ?_
 rintro _ _ ⟨c1,c2,c3,rfl,rfl⟩
 refine Ja (hN5 _ _ ?_)
 refine gthen_T [box b2 _,box c2 _,box c1 _,box c3 _] U ?_
 refine QZ [(2,.pointer _),(10,.func _ _ _)] ⟨U,U,O⟩ fun σ => ?_
 refine grange (lb := [.pointer (some ⟨c1,0,none⟩),.pointer (some ⟨c2,0,none⟩),.pointer (some ⟨c3,0,none⟩)]) (ps := [11]) (xs := cutS s) (fun k => [sure (∀ j (h : j < (cutS s).length),j < k → partCode (cutS s)[j] = 0),box b2 (.cells #[.int .i64 0,.int .i64 0] 33)]) (fun _ (_ : Unit) => [sure (partsCode (cutS s) ≠ 0),box b2 (.cells #[.int .i64 (partsCode (cutS s) : Nat),.int .i64 (-1)] 33)]) U (e_enter Tryz.func135 U (by kernel_rfl)) (Zk s (by omega) c1 c2 c3 _) (fun w hM => (hM.perm (List.Perm.cons _ (List.Perm.swap _ _ _))).sure (fun _ _ h => absurd h (by omega))) (by decide) (fun _ => U) ?round ?done ?stop
 case round =>
  intro lR k x q hx NR hNR
  have hxs : x.size ≤ 60 := KX (List.mem_of_getElem? hx) (by omega)
  refine Un (fun w hM => hM.known 1 U) ?_
  intro hJ
  refine Jb [(2,.pointer _),(10,.func _ _ _),(11,.string x)] ⟨U,U,U,O⟩ fun σ => Jk (Jd (Kx (v := .string x) U) U U U (Ja ?_))
  refine hNR _ _ fun q2 => ?_
  refine Jb [(2,.pointer _),(3,.string x),(10,.func _ _ _)] ⟨U,U,U,O⟩ fun σ => Kn (Jg fun N6 hN6 => Jk (Jd (Ju (v := .string x) U) U U U ?_))
  refine Km (Kb (vs := [.string x]) Tryz.func120 U (by kernel_rfl) U) (fun w hM => part_any w _ (by omega)) U U U ?_
  refine Jd (Jh U) U U U (Ja (hN6 _ _ (Jb [(2,.pointer _),(3,.string x),(4,.int _ _),(10,.func _ _ _)] ⟨U,U,U,U,O⟩ fun σ => Jg fun N7 hN7 => Jk (Jd (Jf U) U U U (Jd (Uj U U) U U U (Ja (hN7 _ _ (Jb [(2,.pointer _),(3,.string x),(4,.int _ _),(10,.func _ _ _),(15,.bool _)] ⟨U,U,U,U,U,O⟩ fun σ => ?_))))))))
  refine Jt (b := _) U (fun hc15 => ?_) (fun hc15 => ?_)
  replace hc15 := odt hc15
  refine Jg fun N8 hN8 => Jk (Jd (Jf U) U U U (Jd (Kd (vs := [(0,.int _ _),(1,_)]) (cells := #[_,_]) U (Ma _ _)) U U U (Jr 2 (v := .agg #[_,_]) (cs' := #[_,_]) U U Tryz.sizeOf33 U U U U (leb U) U U (Ja (hN8 _ _ (gT [_,sure _,box b2 _] U (Jb [(2,.pointer _)] ⟨U,O⟩ fun σ => ?_)))))))
  refine Ke fun w1 hM => ?_
  refine ⟨(),?_⟩
  have hpc := QJ hx hJ (by omega)
  rw [← hpc] at hM
  exact hM.resure 1 rfl (by rw [hpc]; omega)
  replace hc15 := Decidable.not_not.1 (odf hc15)
  refine Jw ?_
  intro w1 hM
  exact hM.resure 1 rfl (fun j h hj => by rcases Nat.lt_succ_iff_lt_or_eq.1 hj with h1 | rfl; exact hJ j h h1; have h2 := List.getElem?_eq_some_iff.1 hx; rw [h2.2]; omega)
 case done =>
  intro D qD
  refine Jb [(2,.pointer _)] ⟨U,O⟩ fun σ => ?_
  refine Un (fun w hM => hM.known 2 U) ?_
  intro hJ
  have hz : partsCode (cutS s) = 0 := Zs (fun j h => hJ j h h)
  refine Jg fun N9 hN9 => Jk (Jd (Kd (vs := []) (cells := #[.int .i64 0,.int .i64 0]) U Qh) U U U (Jr 3 (v := .agg #[_,_]) (cs' := #[_,_]) U U Tryz.sizeOf33 U U U U (leb U) U U (Ja (hN9 _ _ (gT [_,_,sure _,box b2 _] U (Jb [(2,.pointer _)] ⟨U,O⟩ fun σ => ?_))))))
  refine Ke (UQ 0 U U fun w1 hM => ?_)
  refine ⟨_,res1 rfl (rc 3 (cs := [_,_]) hM rfl rfl Tryz.isAgg33 Tryz.sizeOf33 rfl),?_⟩
  exact ⟨by unfold patFault patCode; rw [if_neg (show ¬ 60 < s.size by omega),hz]; rfl,hM.low⟩
 case stop =>
  rintro D qD k - hk w1 hM
  refine ⟨_,res1 rfl (rc 3 (cs := [_,_]) hM rfl rfl Tryz.isAgg33 Tryz.sizeOf33 rfl),?_⟩
  have hne := hM.known 2 rfl
  have hpc : patCode s = partsCode (cutS s) := by unfold patCode; rw [if_neg (by omega)]
  exact ⟨by unfold patFault; rw [hpc,if_neg hne],hM.low⟩
set_option maxHeartbeats 2000000 in
theorem Wb (w : World) (s : ByteArray) : Calls Tryz.prog 44 #[.string s] w fun e w' => e = .returned (.bool (pathOk s)) ∧ Below w.heap.size w w' := by
 refine Kz Tryz.func44 U Tryz.ntmps44 (leb U) ?_
 refine Jb [(0,.string _)] ⟨U,O⟩ fun σ => Jg fun N1 hN1 => Jk ?_
 refine Ka (cs := #[.bool false]) Tryz.zeroValue4 U U (fun b2 hb2 => ?_)
 refine Ja (hN1 _ _ (gT [box b2 _] U (Jb [(0,.string _),(2,.pointer _)] ⟨U,U,O⟩ fun σ => Jg fun N2 hN2 => Jg fun N3 hN3 => Jk (Jd (Ku U) U U U (Jd (Qt Tryz.underlying9 U) U U U (Jd (Mh U U) U U U (Ja (hN3 _ _ ?_))))))))
 refine Jb [(0,.string _),(2,.pointer _),(7,.bool _)] ⟨U,U,U,O⟩ fun σ => ?_
 refine Jt (b := _) U (fun hc7 => ?_) (fun hc7 => ?_)
 replace hc7 := odt hc7
 refine Jg fun N4 hN4 => Jk (Jr 0 (v := .bool _) (cs' := #[_]) U U Tryz.sizeOf4 U U U U (leb U) U U (Ja (hN4 _ _ (gT [box b2 _] U (Jb [(2,.pointer _)] ⟨U,O⟩ fun σ => ?_)))))
 refine Ke fun w1 hM => ?_
 refine ⟨_,res1 rfl (rc1 0 hM rfl rfl Tryz.isAgg4),?_⟩
 exact ⟨by rw [show pathOk s = false by unfold pathOk; rw [decide_eq_false (by omega),Bool.and_false]],hM.low⟩
 replace hc7 := odf hc7
 refine Jw (hN2 _ _ (Jb [(0,.string _),(2,.pointer _)] ⟨U,U,O⟩ fun σ => ?_))
 refine gseqAB fun N5 hN5 => ?_
 refine Jk (Jd (Ku U) U U U ?_)
 refine My (fun v T' => ∃ c1 c2 c3,v = .func (.func 135) #[] #[.pointer (some ⟨c1,0,none⟩),.pointer (some ⟨c2,0,none⟩),.pointer (some ⟨c3,0,none⟩)] ∧ T' = [box c2 (.cells #[.string s] 9),box c1 (.cells #[.string ⟨#[47]⟩] 9),box c3 (.cells #[.int .i64 0] 3)]) (Kb (vs := [.string _,_]) Tryz.func81 U (by kernel_rfl) U) (fun w hM => MX w s) U U U ?_
 rintro _ _ ⟨c1,c2,c3,rfl,rfl⟩
 refine Ja (hN5 _ _ ?_)
 refine gthen_T [box b2 _,box c2 _,box c1 _,box c3 _] U ?_
 refine QZ [(2,.pointer _),(9,.func _ _ _)] ⟨U,U,O⟩ fun σ => ?_
 refine grange (lb := [.pointer (some ⟨c1,0,none⟩),.pointer (some ⟨c2,0,none⟩),.pointer (some ⟨c3,0,none⟩)]) (ps := [10]) (xs := cutS s) (fun k => [sure (∀ j (h : j < (cutS s).length),j < k → nameOk (cutS s)[j] = true),box b2 (.cells #[.bool false] 4)]) (fun _ (_ : Unit) => [sure (pathOk s = false),box b2 (.cells #[.bool false] 4)]) U (e_enter Tryz.func135 U (by kernel_rfl)) (Zk s (by omega) c1 c2 c3 _) (fun w hM => (hM.perm (List.Perm.cons _ (List.Perm.swap _ _ _))).sure (fun _ _ h => absurd h (by omega))) (by decide) (fun _ => U) ?round ?done ?stop
 case round =>
  intro lR k x q hx NR hNR
  have hxs : x.size ≤ 60 := KX (List.mem_of_getElem? hx) (by omega)
  refine Un (fun w hM => hM.known 1 U) ?_
  intro hJ
  refine Jb [(2,.pointer _),(9,.func _ _ _),(10,.string x)] ⟨U,U,U,O⟩ fun σ => Jk (Jd (Kx (v := .string x) U) U U U (Ja ?_))
  refine hNR _ _ fun q2 => ?_
  refine Jb [(2,.pointer _),(3,.string x),(9,.func _ _ _)] ⟨U,U,U,O⟩ fun σ => Kn (Jg fun N6 hN6 => Jg fun N7 hN7 => Jk (Jd (Ju (v := .string x) U) U U U (Jd (Ur U U) U U U (Jd (Jn U) U U U ?_))))
  refine Kh (want := false) U U U U U U (fun hg13 => ?_) (fun hg13 => ?_)
  have hg13d := hg13
  refine Jd (Je (Ju (v := .string x) U)) U U U (Js U U U U hg13 (Jd (Je (Ur U U)) U U U (Jd (Jp U hg13 U) U U U (Jd (Jn U) U U U ?_))))
  refine Kh (want := false) U U U U U U (fun hg17 => ?_) (fun hg17 => ?_)
  have hg17d := hg17
  refine Jd (Je (Ju (v := .string x) U)) U U U (Js U U U U hg17 (Jd (Je (Ur U U)) U U U (Jd (Jp U hg17 U) U U U (Ja (hN7 _ _ (Jb [(2,.pointer _),(3,.string x),(9,.func _ _ _),(20,.bool _)] ⟨U,U,U,U,O⟩ fun σ => ?_))))))
  refine Jt (b := _) U (fun hc20 => ?_) (fun hc20 => ?_)
  refine Jg fun N8 hN8 => Jk (Jr 2 (v := .bool _) (cs' := #[_]) U U Tryz.sizeOf4 U U U U (leb U) U U (Ja (hN8 _ _ (gT [_,sure _,box b2 _] U (Jb [(2,.pointer _)] ⟨U,O⟩ fun σ => ?_)))))
  refine Ke fun w1 hM => ?_
  refine ⟨(),?_⟩
  have hb : nameOk x = false := by simp_all [nameOk,strEq]
  have hp : pathOk s = false := by unfold pathOk; rw [Bool.and_eq_false_iff]; left; rw [List.all_eq_false]; exact ⟨x,List.mem_of_getElem? hx,by simp [hb]⟩
  exact hM.resure 1 rfl hp
  refine Jw (hN6 _ _ (Jb [(2,.pointer _),(3,.string x),(9,.func _ _ _)] ⟨U,U,U,O⟩ fun σ => Jg fun N9 hN9 => Jk (Jd (Ju (v := .string x) U) U U U (Jd (Qt Tryz.underlying9 U) U U U (Jd (Jf U) U U U (Ja (hN9 _ _ (Jb [(2,.pointer _),(3,.string x),(9,.func _ _ _),(22,.int _ _),(23,.int _ _)] ⟨U,U,U,U,U,O⟩ fun σ => ?_))))))))
  refine Kn ?_
  refine Mm [(23,.int _ _)] [(2,.pointer _),(3,.string x),(9,.func _ _ _),(22,.int _ _)] ⟨U,O⟩ ⟨U,U,U,U,O⟩ fun σ => ?_
  refine Ml (G := Nat) (fun i => i ≤ x.size ∧ ∀ j,j < i → letterB (byteAt x j) = true) (fun i => x.size - i) (fun i => [(23,.int .i64 (i : Int))]) (fun i => []) (0) ?h0 ⟨U,O⟩ ⟨U,U,U,U,O⟩ U ?round
  case h0 => exact ⟨Nat.zero_le _,fun _ h => absurd h (by omega)⟩
  case round =>
   intro i hφ σ
   obtain ⟨hi,hz⟩ := hφ
   refine Jg fun N10 hN10 => Jk (Jd (Me U U) U U U (Ja (hN10 _ _ (Jb [(2,.pointer _),(3,.string x),(9,.func _ _ _),(22,.int _ _),(23,.int _ _),(24,.bool _)] ⟨U,U,U,U,U,U,O⟩ fun σ => Jg fun N11 hN11 => ?_))))
   refine Jt (b := _) U (fun hc24 => ?_) (fun hc24 => ?_)
   replace hc24 := odt hc24
   refine Jw (hN11 _ _ (Jb [(2,.pointer _),(3,.string x),(9,.func _ _ _),(22,.int _ _),(23,.int _ _)] ⟨U,U,U,U,U,O⟩ fun σ => Jg fun N12 hN12 => Kn (Jg fun N13 hN13 => Jk (Jd (Jf U) U U U (Jd (Jh U) U U U (Ja (hN13 _ _ (Jb [(2,.pointer _),(3,.string x),(4,.int _ _),(9,.func _ _ _),(22,.int _ _),(23,.int _ _)] ⟨U,U,U,U,U,U,O⟩ fun σ => ?_))))))))
   refine Jg fun N14 hN14 => Jk (Jd (Ju (v := .string x) U) U U U (Jd (Jf U) U U U (Jd (Uu (m := i) Tryz.underlying9 U U (by omega) (by omega) (by omega)) U U U ?_)))
   refine Km (Kb (vs := [.int _ _]) Tryz.func82 U (by kernel_rfl) U) (fun w hM => Zd w _) U U U ?_
   refine Jd (Mp U) U U U (Ja (hN14 _ _ (Jb [(2,.pointer _),(3,.string x),(9,.func _ _ _),(22,.int _ _),(23,.int _ _),(30,.bool _)] ⟨U,U,U,U,U,U,O⟩ fun σ => ?_)))
   refine Jt (b := _) U (fun hc30 => ?_) (fun hc30 => ?_)
   replace hc30 := Ub hc30
   refine Jg fun N15 hN15 => Jk (Jr 2 (v := .bool _) (cs' := #[_]) U U Tryz.sizeOf4 U U U U (leb U) U U (Ja (hN15 _ _ (gT [_,sure _,box b2 _] U (Jb [(2,.pointer _)] ⟨U,O⟩ fun σ => ?_)))))
   refine Ke fun w1 hM => ?_
   refine ⟨(),?_⟩
   have hb : nameOk x = false := by exact nameOk_bad (k := i) (by omega) (by simpa using hc30)
   have hp : pathOk s = false := by unfold pathOk; rw [Bool.and_eq_false_iff]; left; rw [List.all_eq_false]; exact ⟨x,List.mem_of_getElem? hx,by simp [hb]⟩
   exact hM.resure 1 rfl hp
   replace hc30 := Ue hc30
   refine Jw (hN12 _ _ (Jb [(2,.pointer _),(3,.string x),(9,.func _ _ _),(22,.int _ _),(23,.int _ _)] ⟨U,U,U,U,U,O⟩ fun σ => Jk (Jd (Kr U U ⟨by omega,by omega⟩) U U U (Jd (Jf U) U U U (Ja ?_)))))
   refine Kt (i + 1) (by omega) (⟨by omega,fun j hj => by rcases Nat.lt_succ_iff_lt_or_eq.1 hj with h1 | rfl; exact hz j h1; simpa using hc30⟩) ⟨U,O⟩ ⟨U,U,U,U,O⟩ ⟨_,U⟩
   replace hc24 := odf hc24
   refine Mx ?_
   intro w1 hM
   have hok : nameOk x = true := by rw [nameOk_all (fun j hj => hz j (by omega))]; simp_all [strEq]
   exact hM.resure 1 rfl (fun j h hj => by rcases Nat.lt_succ_iff_lt_or_eq.1 hj with h1 | rfl; exact hJ j h h1; have h2 := List.getElem?_eq_some_iff.1 hx; rw [h2.2]; exact hok)
  have hg17d := hg17
  refine Jj U U U U hg17 U U (Jd (Jo U hg17 U) U U U (Ja (hN7 _ _ (Jb [(2,.pointer _),(3,.string x),(9,.func _ _ _),(20,.bool _)] ⟨U,U,U,U,O⟩ fun σ => ?_))))
  refine Jt (b := _) U (fun hc20 => ?_) (fun hc20 => ?_)
  refine Jg fun N16 hN16 => Jk (Jr 2 (v := .bool _) (cs' := #[_]) U U Tryz.sizeOf4 U U U U (leb U) U U (Ja (hN16 _ _ (gT [_,sure _,box b2 _] U (Jb [(2,.pointer _)] ⟨U,O⟩ fun σ => ?_)))))
  refine Ke fun w1 hM => ?_
  refine ⟨(),?_⟩
  have hb : nameOk x = false := by simp_all [nameOk,strEq]
  have hp : pathOk s = false := by unfold pathOk; rw [Bool.and_eq_false_iff]; left; rw [List.all_eq_false]; exact ⟨x,List.mem_of_getElem? hx,by simp [hb]⟩
  exact hM.resure 1 rfl hp
  cases hc20
  have hg13d := hg13
  refine Jj U U U U hg13 U U (Jd (Jo U hg13 U) U U U (Jd (Jn U) U U U (Jj U U U U U U U (Jj U U U U U U U (Jd (Jo U U U) U U U (Ja (hN7 _ _ (Jb [(2,.pointer _),(3,.string x),(9,.func _ _ _),(20,.bool _)] ⟨U,U,U,U,O⟩ fun σ => ?_))))))))
  refine Jt (b := _) U (fun hc20 => ?_) (fun hc20 => ?_)
  refine Jg fun N17 hN17 => Jk (Jr 2 (v := .bool _) (cs' := #[_]) U U Tryz.sizeOf4 U U U U (leb U) U U (Ja (hN17 _ _ (gT [_,sure _,box b2 _] U (Jb [(2,.pointer _)] ⟨U,O⟩ fun σ => ?_)))))
  refine Ke fun w1 hM => ?_
  refine ⟨(),?_⟩
  have hb : nameOk x = false := by simp_all [nameOk,strEq]
  have hp : pathOk s = false := by unfold pathOk; rw [Bool.and_eq_false_iff]; left; rw [List.all_eq_false]; exact ⟨x,List.mem_of_getElem? hx,by simp [hb]⟩
  exact hM.resure 1 rfl hp
  cases hc20
 case done =>
  intro D qD
  refine Jb [(2,.pointer _)] ⟨U,O⟩ fun σ => ?_
  refine Un (fun w hM => hM.known 2 U) ?_
  intro hJ
  have hz : pathOk s = true := by unfold pathOk; rw [List.all_eq_true.2 (fun x hx => by obtain ⟨j,hj,rfl⟩ := List.getElem_of_mem hx; exact hJ j hj hj),decide_eq_true (by omega)]; rfl
  refine Jg fun N18 hN18 => Jk (Jr 3 (v := .bool _) (cs' := #[_]) U U Tryz.sizeOf4 U U U U (leb U) U U (Ja (hN18 _ _ (gT [_,_,sure _,box b2 _] U (Jb [(2,.pointer _)] ⟨U,O⟩ fun σ => ?_)))))
  refine Ke (UQ 0 U U fun w1 hM => ?_)
  refine ⟨_,res1 rfl (rc1 3 hM rfl rfl Tryz.isAgg4),?_⟩
  exact ⟨by rw [hz],hM.low⟩
 case stop =>
  rintro D qD k - hk w1 hM
  refine ⟨_,res1 rfl (rc1 3 hM rfl rfl Tryz.isAgg4),?_⟩
  have hne := hM.known 2 rfl
  exact ⟨by rw [hne],hM.low⟩
end Go.Proofs.YtbkameioedmlkaaGreatDoor
namespace Go.Proofs.YtbkameioedmlkaaGreatDoor
open Go.RowKit Go.Cf
set_option maxRecDepth 10000
set_option maxHeartbeats 1000000 in
theorem stars_any (w0 w : World) (b2 b5 g n cap base : Nat) (p : ByteArray) (l : List Bool) (fr : Reg) (hp : p.size ≤ 4000000) (hn : n = p.size + 1) (hl : n = l.length) (hfr : ∀ w1, fr.ok w1 → w1.cell? ⟨b2, 0, none⟩ = some (.string p) ∧ w1.cell? ⟨b5, 0, none⟩ = some (.slice (some ⟨g, 0, none⟩) n cap)) (hM0 : Mem w0 [rowl boolCells base 4 1 (.slice (some ⟨g, 0, none⟩) (n) (cap)) (l), fr] w) : Calls Tryz.prog 152 #[.pointer (some ⟨b2, 0, none⟩), .pointer (some ⟨b5, 0, none⟩)] w fun e w' => e = .returned (.tuple #[]) ∧ Mem w0 [rowl boolCells base 4 1 (.slice (some ⟨g, 0, none⟩) (n) (cap)) (starsTo p l p.size), fr] w' := by
 refine gcallsT Tryz.func152 U Tryz.ntmps152 (leb U) hM0 ?_
 refine Jb [(0,.pointer (some _)),(1,.pointer (some _))] ⟨U,U,O⟩ fun σ => Jg fun N1 hN1 => Jk (Jd (Jq Tryz.isAgg9 U (fun w hM => (hfr w (hM.ok _ (List.mem_of_getElem? (i := 1) U))).1)) U U U (Jd (Qt Tryz.underlying9 U) U U U (Jd (Jf U) U U U (Ja (hN1 _ _ (Jb [(0,.pointer (some _)),(1,.pointer (some _)),(4,.int _ _),(5,.int _ _)] ⟨U,U,U,U,O⟩ fun σ => Kn ?_))))))
 refine Mm [(5,.int _ _)] [(0,.pointer (some _)),(1,.pointer (some _)),(4,.int _ _)] ⟨U,O⟩ ⟨U,U,U,O⟩ fun σ => ?_
 refine Ml (G := Nat) (fun i => i ≤ p.size) (fun i => p.size - i) (fun i => [(5,.int .i64 (i : Int))]) (fun i => [(0,rowl boolCells base 4 1 (.slice (some ⟨g,0,none⟩) (n) (cap)) (starsTo p l i))]) (0) ?h0 ⟨U,O⟩ ⟨U,U,U,O⟩ U ?round
 case h0 => exact Nat.zero_le _
 case round =>
  intro i hφ σ
  have hi := hφ
  have hL : (starsTo p l i).length = n := by rw [Xr]; exact hl.symm
  refine gT [rowl _ _ _ _ _ _,fr] U (Jg fun N2 hN2 => Jk (Jd (Me U U) U U U (Ja (hN2 _ _ (Jb [(0,.pointer (some _)),(1,.pointer (some _)),(4,.int _ _),(5,.int _ _),(6,.bool _)] ⟨U,U,U,U,U,O⟩ fun σ => Jg fun N3 hN3 => ?_)))))
  refine Jt (b := _) U (fun hc6 => ?_) (fun hc6 => ?_)
  replace hc6 := odt hc6
  refine Jw (hN3 _ _ (Jb [(0,.pointer (some _)),(1,.pointer (some _)),(4,.int _ _),(5,.int _ _)] ⟨U,U,U,U,O⟩ fun σ => Jg fun N4 hN4 => Kn (Jg fun N5 hN5 => Jk (Jd (Jf U) U U U (Jd (Jh U) U U U (Ja (hN5 _ _ (Jb [(0,.pointer (some _)),(1,.pointer (some _)),(2,.int _ _),(4,.int _ _),(5,.int _ _)] ⟨U,U,U,U,U,O⟩ fun σ => ?_))))))))
  refine Jg fun N6 hN6 => Jk (Jd (Jq Tryz.isAgg9 U (fun w hM => (hfr w (hM.ok _ (List.mem_of_getElem? (i := 1) U))).1)) U U U (Jd (Jf U) U U U (Jd (Uu (m := i) Tryz.underlying9 U U (by omega) (by omega) (by omega)) U U U (Jd (Mc U U) U U U (Jd (Jn U) U U U ?_)))))
  refine Kh (want := true) U U U U U U (fun hg12 => ?_) (fun hg12 => ?_)
  have hg12d := odt hg12
  refine Jd (Je (Jq Tryz.isAgg46 U (fun w hM => (hfr w (hM.ok _ (List.mem_of_getElem? (i := 1) U))).2))) U U U (Js U U U U hg12 (Jd (Je (Jf U)) U U U (Js U U U U hg12 (Jd (Je (Jz (m := i) Tryz.underlying46 Tryz.sizeOf4 U U (by omega) (by omega) (by omega))) U U U (Js U U U U hg12 ?_)))))
  refine Jd (Je (Jq Tryz.isAgg4 U (Mj 0 (f := boolCells) (l := starsTo p l i) U hL.symm (fun _ => U) (List.getElem?_eq_getElem (show i < (starsTo p l i).length by omega)) 0 _ U))) U U U ?_
  refine Jd (Jo U hg12 U) U U U (Ja (hN6 _ _ (Jb [(0,.pointer (some _)),(1,.pointer (some _)),(2,.int _ _),(4,.int _ _),(5,.int _ _),(17,.bool _)] ⟨U,U,U,U,U,U,O⟩ fun σ => ?_)))
  refine Jt (b := _) U (fun hc17 => ?_) (fun hc17 => ?_)
  refine Jk (Jd (Jq Tryz.isAgg46 U (fun w hM => (hfr w (hM.ok _ (List.mem_of_getElem? (i := 1) U))).2)) U U U (Jd (Jf U) U U U (Jd (Kr U U ⟨by omega,by omega⟩) U U U (Jd (Jz (m := i + 1) Tryz.underlying46 Tryz.sizeOf4 U U (by omega) (by omega) (by omega)) U U U ?_))))
  refine Mk 0 (f := boolCells) (l := starsTo p l i) (k := i + 1) (o := 0) (v := .bool _) (a := (starsTo p l i)[i + 1]'(by omega)) (a' := true) (fun _ => U) U U U Tryz.sizeOf4 U U U U hL.symm (List.getElem?_eq_getElem (by omega)) (leb U) U U ?_
  refine Ja (hN4 _ _ (gT [rowl _ _ _ _ _ _,fr] U (Jb [(0,.pointer (some _)),(1,.pointer (some _)),(4,.int _ _),(5,.int _ _)] ⟨U,U,U,U,O⟩ fun σ => Jk (Jd (Kr U U ⟨by omega,by omega⟩) U U U (Jd (Jf U) U U U (Ja ?_))))))
  rw [starsTo_yes (by omega) (by rw [List.getElem?_eq_getElem (by omega),hc17])]
  refine Kt (i + 1) (by omega) (show i + 1 ≤ _ by omega) ⟨U,O⟩ ⟨U,U,U,O⟩ ⟨_,U⟩
  refine Jw (hN4 _ _ (Jb [(0,.pointer (some _)),(1,.pointer (some _)),(4,.int _ _),(5,.int _ _)] ⟨U,U,U,U,O⟩ fun σ => Jk (Jd (Kr U U ⟨by omega,by omega⟩) U U U (Jd (Jf U) U U U (Ja ?_)))))
  rw [starsTo_no (k := i) (fun h => by have h2 := h.2; rw [List.getElem?_eq_getElem (by omega),hc17] at h2; cases h2)]
  refine Kt (i + 1) (by omega) (show i + 1 ≤ _ by omega) ⟨U,O⟩ ⟨U,U,U,O⟩ ⟨_,U⟩
  have hg12d := odf hg12
  refine Jj U U U U hg12 U U (Jj U U U U hg12 U U (Jj U U U U hg12 U U (Jd (Jp U hg12 U) U U U (Ja (hN6 _ _ (Jb [(0,.pointer (some _)),(1,.pointer (some _)),(2,.int _ _),(4,.int _ _),(5,.int _ _),(17,.bool _)] ⟨U,U,U,U,U,U,O⟩ fun σ => ?_))))))
  refine Jt (b := _) U (fun hc17 => ?_) (fun hc17 => ?_)
  cases hc17
  refine Jw (hN4 _ _ (Jb [(0,.pointer (some _)),(1,.pointer (some _)),(4,.int _ _),(5,.int _ _)] ⟨U,U,U,U,O⟩ fun σ => Jk (Jd (Kr U U ⟨by omega,by omega⟩) U U U (Jd (Jf U) U U U (Ja ?_)))))
  rw [starsTo_no (k := i) (fun h => hg12d (by omega))]
  refine Kt (i + 1) (by omega) (show i + 1 ≤ _ by omega) ⟨U,O⟩ ⟨U,U,U,O⟩ ⟨_,U⟩
  replace hc6 := odf hc6
  obtain rfl : i = p.size := by omega
  refine Mx ?_
  intro w1 hM
  refine ⟨_,res0 rfl,?_⟩
  exact ⟨rfl,hM⟩
set_option maxHeartbeats 2000000 in
theorem name_any (w : World) (p s : ByteArray) (hp : p.size ≤ 4000000) (hs : s.size ≤ 4000000) : Calls Tryz.prog 133 #[.string p, .string s] w fun e w' => e = .returned (.bool (nameM p s)) ∧ Below w.heap.size w w' := by
 refine Kz Tryz.func133 U Tryz.ntmps133 (leb U) ?_
 refine Jb [(0,.string _),(1,.string _)] ⟨U,U,O⟩ fun σ => Jg fun N1 hN1 => Jk ?_
 refine Mt (v := .string _) (cs := #[_]) U U U (fun b2 hb2 => ?_)
 refine Jd (Ji U) U U U (Ja (hN1 _ _ (gT [box b2 _] U (Jb [(1,.string _),(2,.pointer _)] ⟨U,U,O⟩ fun σ => Jg fun N2 hN2 => Jk (Jd (Jq Tryz.isAgg9 U (Jm 0 U U)) U U U (Jd (Qt Tryz.underlying9 U) U U U (Jd (Kr U U ⟨by omega,by omega⟩) U U U ?_)))))))
 refine Zy (f := boolCells) (bytes := 1) (z := .bool false) (false) Tryz.underlying46 (by kernel_rfl) U U U (k := p.size + 1) U U (by omega) (by simp [maxLen]; omega) U (fun b14 hb14 => ?_)
 refine Ka (cs := #[.slice none 0 0]) Tryz.zeroValue46 U U (fun b5 hb5 => ?_)
 refine Jr 2 (v := .slice (some _) _ _) (cs' := #[_]) U U Tryz.sizeOf46 U U U U (leb U) U U (Ja (hN2 _ _ (gT [box b2 _,rowl _ _ _ _ _ _,box b5 _] U (Jb [(1,.string _),(2,.pointer _),(5,.pointer _)] ⟨U,U,U,O⟩ fun σ => Jg fun N3 hN3 => Jk (Jd (Jq Tryz.isAgg46 U (Jm 2 U U)) U U U (Jd (Jz Tryz.underlying46 Tryz.sizeOf4 U U U (by omega) (by omega)) U U U ?_))))))
 refine Mk 1 (f := boolCells) (l := List.replicate (p.size + 1) false) (k := 0) (o := 0) (v := .bool _) (a := false) (a' := true) (fun _ => U) U U U Tryz.sizeOf4 U U U U (by simp) (by simp) (leb U) U U ?_
 refine Ja (hN3 _ _ (gT [box b2 _,rowl _ _ _ _ _ _,box b5 _] U (Jb [(1,.string _),(2,.pointer _),(5,.pointer _)] ⟨U,U,U,O⟩ fun σ => Jg fun N4 hN4 => Jk (Jd (Ym (vs := [.pointer (some ⟨b2,0,none⟩),.pointer (some ⟨b5,0,none⟩)]) U) U U U (Jd (Kx (v := .func (.func 152) #[] #[.pointer (some ⟨b2,0,none⟩),.pointer (some ⟨b5,0,none⟩)]) U) U U U (Ja (hN4 _ _ (Jb [(1,.string _),(2,.pointer _),(5,.pointer _),(6,.func (.func 152) #[] #[.pointer (some ⟨b2,0,none⟩),.pointer (some ⟨b5,0,none⟩)])] ⟨U,U,U,U,O⟩ fun σ => ?_))))))))
 refine Jg fun N5 hN5 => Jk (Jd (Ju (v := .func (.func 152) #[] #[.pointer (some ⟨b2,0,none⟩),.pointer (some ⟨b5,0,none⟩)]) U) U U U ?_)
 refine Mu 1 (fun v r G => v = .tuple #[] ∧ r = rowl boolCells w.heap.size 4 1 (.slice (some ⟨b14,0,none⟩) (p.size + 1) (p.size + 1)) (starsTo p (true :: List.replicate p.size false) p.size) ∧ G = []) (Wx (vs := []) (cs := [.pointer (some ⟨b2,0,none⟩),.pointer (some ⟨b5,0,none⟩)]) U Tryz.func152 U (by kernel_rfl) U) U (fun w fr1 hfr hM => (stars_any _ w b2 b5 b14 _ _ _ p _ fr1 hp U (by simp) (fun w1 ho => ⟨Xc (hfr 0 _ U (by decide) w1 ho) U,Xc (hfr 2 _ U (by decide) w1 ho) U⟩) hM).mono fun _ _ ⟨he,hm⟩ => ⟨_,_,[],he,⟨U,U,U⟩,hm⟩) U U U ?_
 rintro _ _ _ ⟨rfl,rfl,rfl⟩
 refine Ja (hN5 _ _ (gT [box b2 _,rowl _ _ _ _ _ _,box b5 _] U (Jb [(1,.string _),(2,.pointer _),(5,.pointer _),(6,.func (.func 152) #[] #[.pointer (some ⟨b2,0,none⟩),.pointer (some ⟨b5,0,none⟩)])] ⟨U,U,U,U,O⟩ fun σ => Jg fun N6 hN6 => Jg fun N7 hN7 => Jk (Jd (Ku U) U U U (Jd (Qt Tryz.underlying9 U) U U U (Jd (Jf U) U U U (Ja (hN7 _ _ ?_))))))))
 refine Jb [(1,.string _),(2,.pointer _),(5,.pointer _),(6,.func (.func 152) #[] #[.pointer (some ⟨b2,0,none⟩),.pointer (some ⟨b5,0,none⟩)]),(21,.int _ _),(22,.int _ _)] ⟨U,U,U,U,U,U,O⟩ fun σ => Kn ?_
 refine Mm [(22,.int _ _)] [(1,.string _),(2,.pointer _),(5,.pointer _),(6,.func (.func 152) #[] #[.pointer (some ⟨b2,0,none⟩),.pointer (some ⟨b5,0,none⟩)]),(21,.int _ _)] ⟨U,O⟩ ⟨U,U,U,U,U,O⟩ fun σ => ?_
 refine Ml (G := Nat × Nat) (fun (k,g) => k ≤ s.size) (fun (k,g) => s.size - k) (fun (k,g) => [(22,.int .i64 (k : Int))]) (fun (k,g) => [(1,rowl boolCells w.heap.size 4 1 (.slice (some ⟨g,0,none⟩) (p.size + 1) (p.size + 1)) (nameRun p s k)),(2,box b5 (.cells #[.slice (some ⟨g,0,none⟩) (p.size + 1) (p.size + 1)] 46))]) ((0,b14)) ?h0 ⟨U,O⟩ ⟨U,U,U,U,U,O⟩ U ?round
 case h0 => exact Nat.zero_le _
 case round =>
  rintro ⟨k,g⟩ hφ σ
  have hk : k ≤ s.size := hφ
  have hR := Zu p s k
  refine gT [box b2 _,rowl _ _ _ _ _ _,box b5 _] U (Jg fun N8 hN8 => Jk (Jd (Me U U) U U U (Ja (hN8 _ _ (Jb [(1,.string _),(2,.pointer _),(5,.pointer _),(6,.func (.func 152) #[] #[.pointer (some ⟨b2,0,none⟩),.pointer (some ⟨b5,0,none⟩)]),(21,.int _ _),(22,.int _ _),(23,.bool _)] ⟨U,U,U,U,U,U,U,O⟩ fun σ => Jg fun N9 hN9 => ?_)))))
  refine Jt (b := _) U (fun hc23 => ?_) (fun hc23 => ?_)
  replace hc23 := odt hc23
  refine Jw (hN9 _ _ (Jb [(1,.string _),(2,.pointer _),(5,.pointer _),(6,.func (.func 152) #[] #[.pointer (some ⟨b2,0,none⟩),.pointer (some ⟨b5,0,none⟩)]),(21,.int _ _),(22,.int _ _)] ⟨U,U,U,U,U,U,O⟩ fun σ => Jg fun N10 hN10 => Kn (Jg fun N11 hN11 => Jk (Jd (Jf U) U U U (Jd (Jh U) U U U (Ja (hN11 _ _ (Jb [(1,.string _),(2,.pointer _),(5,.pointer _),(6,.func (.func 152) #[] #[.pointer (some ⟨b2,0,none⟩),.pointer (some ⟨b5,0,none⟩)]),(7,.int _ _),(21,.int _ _),(22,.int _ _)] ⟨U,U,U,U,U,U,U,O⟩ fun σ => ?_))))))))
  refine Jg fun N12 hN12 => Jk (Jd (Jq Tryz.isAgg9 U (Jm 0 U U)) U U U (Jd (Qt Tryz.underlying9 U) U U U (Jd (Kr U U ⟨by omega,by omega⟩) U U U ?_)))
  refine Zy (f := boolCells) (bytes := 1) (z := .bool false) (false) Tryz.underlying46 (by kernel_rfl) U U U (k := p.size + 1) U U (by omega) (by simp [maxLen]; omega) U (fun b28 hb28 => ?_)
  refine Jd (Kx (v := .slice (some _) _ _) U) U U U (Ja (hN12 _ _ (gT [box b2 _,rowl _ _ _ _ _ _,box b5 _,rowl _ _ _ _ _ _] U (Jb [(1,.string _),(2,.pointer _),(5,.pointer _),(6,.func (.func 152) #[] #[.pointer (some ⟨b2,0,none⟩),.pointer (some ⟨b5,0,none⟩)]),(7,.int _ _),(8,.slice (some _) _ _),(21,.int _ _),(22,.int _ _)] ⟨U,U,U,U,U,U,U,U,O⟩ fun σ => Jg fun N13 hN13 => Jg fun N14 hN14 => Jk (Jd (Jq Tryz.isAgg9 U (Jm 0 U U)) U U U (Jd (Qt Tryz.underlying9 U) U U U (Jd (Jf U) U U U (Ja ?_))))))))
  refine hN14 _ _ (Jb [(1,.string _),(2,.pointer _),(5,.pointer _),(6,.func (.func 152) #[] #[.pointer (some ⟨b2,0,none⟩),.pointer (some ⟨b5,0,none⟩)]),(7,.int _ _),(8,.slice (some _) _ _),(21,.int _ _),(22,.int _ _),(30,.int _ _),(31,.int _ _)] ⟨U,U,U,U,U,U,U,U,U,U,O⟩ fun σ => Kn ?_)
  refine Mm [(31,.int _ _)] [(1,.string _),(2,.pointer _),(5,.pointer _),(6,.func (.func 152) #[] #[.pointer (some ⟨b2,0,none⟩),.pointer (some ⟨b5,0,none⟩)]),(7,.int _ _),(8,.slice (some _) _ _),(21,.int _ _),(22,.int _ _),(30,.int _ _)] ⟨U,O⟩ ⟨U,U,U,U,U,U,U,U,U,O⟩ fun σ => ?_
  refine Ml (G := Nat) (fun i => i ≤ p.size) (fun i => p.size - i) (fun i => [(31,.int .i64 (i : Int))]) (fun i => [(3,rowl boolCells w.heap.size 4 1 (.slice (some ⟨b28,0,none⟩) (p.size + 1) (p.size + 1)) (nextTo p (byteAt s k) (nameRun p s k) i))]) (0) ?h0 ⟨U,O⟩ ⟨U,U,U,U,U,U,U,U,U,O⟩ U ?round
  case h0 => exact Nat.zero_le _
  case round =>
   intro i hφ σ
   have hi := hφ
   have hL : (nextTo p (byteAt s k) (nameRun p s k) i).length = p.size + 1 := Zb _ _ _ _
   refine gT [box b2 _,rowl _ _ _ _ _ _,box b5 _,rowl _ _ _ _ _ _] U (Jg fun N15 hN15 => Jk (Jd (Me U U) U U U (Ja (hN15 _ _ (Jb [(1,.string _),(2,.pointer _),(5,.pointer _),(6,.func (.func 152) #[] #[.pointer (some ⟨b2,0,none⟩),.pointer (some ⟨b5,0,none⟩)]),(7,.int _ _),(8,.slice (some _) _ _),(21,.int _ _),(22,.int _ _),(30,.int _ _),(31,.int _ _),(32,.bool _)] ⟨U,U,U,U,U,U,U,U,U,U,U,O⟩ fun σ => Jg fun N16 hN16 => ?_)))))
   refine Jt (b := _) U (fun hc32 => ?_) (fun hc32 => ?_)
   replace hc32 := odt hc32
   refine Jw (hN16 _ _ (Jb [(1,.string _),(2,.pointer _),(5,.pointer _),(6,.func (.func 152) #[] #[.pointer (some ⟨b2,0,none⟩),.pointer (some ⟨b5,0,none⟩)]),(7,.int _ _),(8,.slice (some _) _ _),(21,.int _ _),(22,.int _ _),(30,.int _ _),(31,.int _ _)] ⟨U,U,U,U,U,U,U,U,U,U,O⟩ fun σ => Jg fun N17 hN17 => Kn (Jg fun N18 hN18 => Jk (Jd (Jf U) U U U (Jd (Jh U) U U U (Ja (hN18 _ _ (Jb [(1,.string _),(2,.pointer _),(5,.pointer _),(6,.func (.func 152) #[] #[.pointer (some ⟨b2,0,none⟩),.pointer (some ⟨b5,0,none⟩)]),(7,.int _ _),(8,.slice (some _) _ _),(9,.int _ _),(21,.int _ _),(22,.int _ _),(30,.int _ _),(31,.int _ _)] ⟨U,U,U,U,U,U,U,U,U,U,U,O⟩ fun σ => ?_))))))))
   refine Jg fun N19 hN19 => Jk (Jd (Jq Tryz.isAgg9 U (Jm 0 U U)) U U U (Jd (Jf U) U U U (Jd (Uu (m := i) Tryz.underlying9 U U (by omega) (by omega) (by omega)) U U U (Jd (Jh U) U U U (Ja (hN19 _ _ (Jb [(1,.string _),(2,.pointer _),(5,.pointer _),(6,.func (.func 152) #[] #[.pointer (some ⟨b2,0,none⟩),.pointer (some ⟨b5,0,none⟩)]),(7,.int _ _),(8,.slice (some _) _ _),(9,.int _ _),(10,.int _ _),(21,.int _ _),(22,.int _ _),(30,.int _ _),(31,.int _ _)] ⟨U,U,U,U,U,U,U,U,U,U,U,U,O⟩ fun σ => Kn (Jg fun N20 hN20 => ?_))))))))
   refine Jk (Jd (Jq Tryz.isAgg46 U (Jm 2 U U)) U U U (Jd (Jf U) U U U (Jd (Jz (m := i) Tryz.underlying46 Tryz.sizeOf4 U U (by omega) (by omega) (by omega)) U U U ?_)))
   refine Jd (Jq Tryz.isAgg4 U (Mj 1 (f := boolCells) (l := nameRun p s k) U (Zu p s k).symm (fun _ => U) (List.getElem?_eq_getElem (show i < (nameRun p s k).length by omega)) 0 _ U)) U U U ?_
   refine Jd (Mp U) U U U (Jd (Ji U) U U U (Ja (hN20 _ _ (Jb [(1,.string _),(2,.pointer _),(5,.pointer _),(6,.func (.func 152) #[] #[.pointer (some ⟨b2,0,none⟩),.pointer (some ⟨b5,0,none⟩)]),(7,.int _ _),(8,.slice (some _) _ _),(9,.int _ _),(10,.int _ _),(21,.int _ _),(22,.int _ _),(30,.int _ _),(31,.int _ _),(37,.bool _)] ⟨U,U,U,U,U,U,U,U,U,U,U,U,U,O⟩ fun σ => ?_))))
   refine Jt (b := _) U (fun hc37 => ?_) (fun hc37 => ?_)
   replace hc37 := Ub hc37
   refine Jw (hN17 _ _ (Jb [(1,.string _),(2,.pointer _),(5,.pointer _),(6,.func (.func 152) #[] #[.pointer (some ⟨b2,0,none⟩),.pointer (some ⟨b5,0,none⟩)]),(7,.int _ _),(8,.slice (some _) _ _),(21,.int _ _),(22,.int _ _),(30,.int _ _),(31,.int _ _)] ⟨U,U,U,U,U,U,U,U,U,U,O⟩ fun σ => Jk (Jd (Kr U U ⟨by omega,by omega⟩) U U U (Jd (Jf U) U U U (Ja ?_)))))
   rw [nextTo_off (i := i) (by rw [List.getElem?_eq_getElem (by omega),hc37])]
   refine Kt (i + 1) (by omega) (show i + 1 ≤ _ by omega) ⟨U,O⟩ ⟨U,U,U,U,U,U,U,U,U,O⟩ ⟨_,U⟩
   replace hc37 := Ue hc37
   refine Jg fun N21 hN21 => Jk (Jd (Jf U) U U U (Jd (Mc U U) U U U (Jd (Ji U) U U U (Ja (hN21 _ _ (Jb [(1,.string _),(2,.pointer _),(5,.pointer _),(6,.func (.func 152) #[] #[.pointer (some ⟨b2,0,none⟩),.pointer (some ⟨b5,0,none⟩)]),(7,.int _ _),(8,.slice (some _) _ _),(9,.int _ _),(10,.int _ _),(21,.int _ _),(22,.int _ _),(30,.int _ _),(31,.int _ _),(43,.bool _)] ⟨U,U,U,U,U,U,U,U,U,U,U,U,U,O⟩ fun σ => ?_))))))
   refine Jt (b := _) U (fun hc43 => ?_) (fun hc43 => ?_)
   replace hc43 := odt hc43
   refine Jk (Jd (Ju (v := .slice (some _) _ _) U) U U U (Jd (Jf U) U U U (Jd (Jz (m := i) Tryz.underlying46 Tryz.sizeOf4 U U (by omega) (by omega) (by omega)) U U U ?_)))
   refine Mk 3 (f := boolCells) (l := nextTo p (byteAt s k) (nameRun p s k) i) (k := i) (o := 0) (v := .bool _) (a := (nextTo p (byteAt s k) (nameRun p s k) i)[i]'(by omega)) (a' := true) (fun _ => U) U U U Tryz.sizeOf4 U U U U hL.symm (List.getElem?_eq_getElem (by omega)) (leb U) U U ?_
   refine Ja (hN17 _ _ (gT [box b2 _,rowl _ _ _ _ _ _,box b5 _,rowl _ _ _ _ _ _] U (Jb [(1,.string _),(2,.pointer _),(5,.pointer _),(6,.func (.func 152) #[] #[.pointer (some ⟨b2,0,none⟩),.pointer (some ⟨b5,0,none⟩)]),(7,.int _ _),(8,.slice (some _) _ _),(21,.int _ _),(22,.int _ _),(30,.int _ _),(31,.int _ _)] ⟨U,U,U,U,U,U,U,U,U,U,O⟩ fun σ => Jk (Jd (Kr U U ⟨by omega,by omega⟩) U U U (Jd (Jf U) U U U (Ja ?_))))))
   rw [nextTo_star (by rw [List.getElem?_eq_getElem (by omega),hc37]) (by omega)]
   refine Kt (i + 1) (by omega) (show i + 1 ≤ _ by omega) ⟨U,O⟩ ⟨U,U,U,U,U,U,U,U,U,O⟩ ⟨_,U⟩
   replace hc43 := odf hc43
   refine Jg fun N22 hN22 => Jk (Jd (Jf U) U U U (Jd (Mc U U) U U U (Jd (Jn U) U U U ?_)))
   refine Kh (want := false) U U U U U U (fun hg52 => ?_) (fun hg52 => ?_)
   have hg52d := odf hg52
   refine Jd (Je (Jf U)) U U U (Js U U U U hg52 (Jd (Je (Ku U)) U U U (Js U U U U hg52 (Jd (Je (Jf U)) U U U (Js U U U U hg52 (Jd (Je (Uu (m := k) Tryz.underlying9 U U (by omega) (by omega) (by omega))) U U U (Js U U U U hg52 (Jd (Je (Mc U U)) U U U ?_))))))))
   refine Jd (Jp U hg52 U) U U U (Jd (Ji U) U U U (Ja (hN22 _ _ (Jb [(1,.string _),(2,.pointer _),(5,.pointer _),(6,.func (.func 152) #[] #[.pointer (some ⟨b2,0,none⟩),.pointer (some ⟨b5,0,none⟩)]),(7,.int _ _),(8,.slice (some _) _ _),(9,.int _ _),(21,.int _ _),(22,.int _ _),(30,.int _ _),(31,.int _ _),(49,.bool _)] ⟨U,U,U,U,U,U,U,U,U,U,U,U,O⟩ fun σ => ?_))))
   refine Jt (b := _) U (fun hc49 => ?_) (fun hc49 => ?_)
   replace hc49 := odt hc49
   refine Jk (Jd (Ju (v := .slice (some _) _ _) U) U U U (Jd (Jf U) U U U (Jd (Kr U U ⟨by omega,by omega⟩) U U U (Jd (Jz (m := i + 1) Tryz.underlying46 Tryz.sizeOf4 U U (by omega) (by omega) (by omega)) U U U ?_))))
   refine Mk 3 (f := boolCells) (l := nextTo p (byteAt s k) (nameRun p s k) i) (k := i + 1) (o := 0) (v := .bool _) (a := (nextTo p (byteAt s k) (nameRun p s k) i)[i + 1]'(by omega)) (a' := true) (fun _ => U) U U U Tryz.sizeOf4 U U U U hL.symm (List.getElem?_eq_getElem (by omega)) (leb U) U U ?_
   refine Ja (hN17 _ _ (gT [box b2 _,rowl _ _ _ _ _ _,box b5 _,rowl _ _ _ _ _ _] U (Jb [(1,.string _),(2,.pointer _),(5,.pointer _),(6,.func (.func 152) #[] #[.pointer (some ⟨b2,0,none⟩),.pointer (some ⟨b5,0,none⟩)]),(7,.int _ _),(8,.slice (some _) _ _),(21,.int _ _),(22,.int _ _),(30,.int _ _),(31,.int _ _)] ⟨U,U,U,U,U,U,U,U,U,U,O⟩ fun σ => Jk (Jd (Kr U U ⟨by omega,by omega⟩) U U U (Jd (Jf U) U U U (Ja ?_))))))
   rw [nextTo_char (by rw [List.getElem?_eq_getElem (by omega),hc37]) (by omega) (.inr (by omega))]
   refine Kt (i + 1) (by omega) (show i + 1 ≤ _ by omega) ⟨U,O⟩ ⟨U,U,U,U,U,U,U,U,U,O⟩ ⟨_,U⟩
   replace hc49 := odf hc49
   refine Jw (hN17 _ _ (Jb [(1,.string _),(2,.pointer _),(5,.pointer _),(6,.func (.func 152) #[] #[.pointer (some ⟨b2,0,none⟩),.pointer (some ⟨b5,0,none⟩)]),(7,.int _ _),(8,.slice (some _) _ _),(21,.int _ _),(22,.int _ _),(30,.int _ _),(31,.int _ _)] ⟨U,U,U,U,U,U,U,U,U,U,O⟩ fun σ => Jk (Jd (Kr U U ⟨by omega,by omega⟩) U U U (Jd (Jf U) U U U (Ja ?_)))))
   rw [nextTo_miss (i := i) (by rw [List.getElem?_eq_getElem (by omega),hc37]) (by omega) (by omega)]
   refine Kt (i + 1) (by omega) (show i + 1 ≤ _ by omega) ⟨U,O⟩ ⟨U,U,U,U,U,U,U,U,U,O⟩ ⟨_,U⟩
   have hg52d := odt hg52
   refine Jj U U U U hg52 U U (Jj U U U U hg52 U U (Jj U U U U hg52 U U (Jj U U U U hg52 U U (Jd (Jo U hg52 U) U U U (Jd (Ji U) U U U (Ja (hN22 _ _ (Jb [(1,.string _),(2,.pointer _),(5,.pointer _),(6,.func (.func 152) #[] #[.pointer (some ⟨b2,0,none⟩),.pointer (some ⟨b5,0,none⟩)]),(7,.int _ _),(8,.slice (some _) _ _),(9,.int _ _),(21,.int _ _),(22,.int _ _),(30,.int _ _),(31,.int _ _),(49,.bool _)] ⟨U,U,U,U,U,U,U,U,U,U,U,U,O⟩ fun σ => ?_))))))))
   refine Jt (b := _) U (fun hc49 => ?_) (fun hc49 => ?_)
   refine Jk (Jd (Ju (v := .slice (some _) _ _) U) U U U (Jd (Jf U) U U U (Jd (Kr U U ⟨by omega,by omega⟩) U U U (Jd (Jz (m := i + 1) Tryz.underlying46 Tryz.sizeOf4 U U (by omega) (by omega) (by omega)) U U U ?_))))
   refine Mk 3 (f := boolCells) (l := nextTo p (byteAt s k) (nameRun p s k) i) (k := i + 1) (o := 0) (v := .bool _) (a := (nextTo p (byteAt s k) (nameRun p s k) i)[i + 1]'(by omega)) (a' := true) (fun _ => U) U U U Tryz.sizeOf4 U U U U hL.symm (List.getElem?_eq_getElem (by omega)) (leb U) U U ?_
   refine Ja (hN17 _ _ (gT [box b2 _,rowl _ _ _ _ _ _,box b5 _,rowl _ _ _ _ _ _] U (Jb [(1,.string _),(2,.pointer _),(5,.pointer _),(6,.func (.func 152) #[] #[.pointer (some ⟨b2,0,none⟩),.pointer (some ⟨b5,0,none⟩)]),(7,.int _ _),(8,.slice (some _) _ _),(21,.int _ _),(22,.int _ _),(30,.int _ _),(31,.int _ _)] ⟨U,U,U,U,U,U,U,U,U,U,O⟩ fun σ => Jk (Jd (Kr U U ⟨by omega,by omega⟩) U U U (Jd (Jf U) U U U (Ja ?_))))))
   rw [nextTo_char (by rw [List.getElem?_eq_getElem (by omega),hc37]) (by omega) (.inl (by omega))]
   refine Kt (i + 1) (by omega) (show i + 1 ≤ _ by omega) ⟨U,O⟩ ⟨U,U,U,U,U,U,U,U,U,O⟩ ⟨_,U⟩
   cases hc49
   replace hc32 := odf hc32
   obtain rfl : i = p.size := by omega
   refine Mx ?_
   refine hN13 _ _ (Jb [(1,.string _),(2,.pointer _),(5,.pointer _),(6,.func (.func 152) #[] #[.pointer (some ⟨b2,0,none⟩),.pointer (some ⟨b5,0,none⟩)]),(8,.slice (some _) _ _),(21,.int _ _),(22,.int _ _)] ⟨U,U,U,U,U,U,U,O⟩ fun σ => Jg fun N23 hN23 => Jk (Jd (Ju (v := .slice (some _) _ _) U) U U U (Jr 2 (v := .slice (some _) _ _) (cs' := #[_]) U U Tryz.sizeOf46 U U U U (leb U) U U (Ja (hN23 _ _ (gT [box b2 _,rowl _ _ _ _ _ _,box b5 _,rowl _ _ _ _ _ _] U (Jb [(1,.string _),(2,.pointer _),(5,.pointer _),(6,.func (.func 152) #[] #[.pointer (some ⟨b2,0,none⟩),.pointer (some ⟨b5,0,none⟩)]),(21,.int _ _),(22,.int _ _)] ⟨U,U,U,U,U,U,O⟩ fun σ => Jk (Jd (Ju (v := .func (.func 152) #[] #[.pointer (some ⟨b2,0,none⟩),.pointer (some ⟨b5,0,none⟩)]) U) U U U ?_))))))))
   refine Mu 3 (fun v r G => v = .tuple #[] ∧ r = rowl boolCells w.heap.size 4 1 (.slice (some ⟨b28,0,none⟩) (p.size + 1) (p.size + 1)) (starsTo p (nextTo p (byteAt s k) (nameRun p s k) p.size) p.size) ∧ G = []) (Wx (vs := []) (cs := [.pointer (some ⟨b2,0,none⟩),.pointer (some ⟨b5,0,none⟩)]) U Tryz.func152 U (by kernel_rfl) U) U (fun w fr1 hfr hM => (stars_any _ w b2 b5 b28 _ _ _ p _ fr1 hp U (by rw [Zb]) (fun w1 ho => ⟨Xc (hfr 0 _ U (by decide) w1 ho) U,Xc (hfr 2 _ U (by decide) w1 ho) U⟩) hM).mono fun _ _ ⟨he,hm⟩ => ⟨_,_,[],he,⟨U,U,U⟩,hm⟩) U U U ?_
   rintro _ _ _ ⟨rfl,rfl,rfl⟩
   refine Ja (hN10 _ _ (gT [box b2 _,rowl _ _ _ _ _ _,box b5 _,rowl _ _ _ _ _ _] U (Jb [(1,.string _),(2,.pointer _),(5,.pointer _),(6,.func (.func 152) #[] #[.pointer (some ⟨b2,0,none⟩),.pointer (some ⟨b5,0,none⟩)]),(21,.int _ _),(22,.int _ _)] ⟨U,U,U,U,U,U,O⟩ fun σ => Jk (Jd (Kr U U ⟨by omega,by omega⟩) U U U (Jd (Jf U) U U U (Ja ?_))))))
   refine fin_mem _ (weak_perm (List.Perm.cons _ (List.reverse_perm _).symm)) ?_
   refine Kt ((k + 1,b28)) (by show s.size - (k + 1) < s.size - k; omega) (show k + 1 ≤ _ by omega) ⟨U,O⟩ ⟨U,U,U,U,U,O⟩ ⟨_,U⟩
  replace hc23 := odf hc23
  obtain rfl : k = s.size := by omega
  refine Mx ?_
  refine hN6 _ _ (Jb [(2,.pointer _),(5,.pointer _)] ⟨U,U,O⟩ fun σ => Jg fun N24 hN24 => Jk (Jd (Jq Tryz.isAgg46 U (Jm 2 U U)) U U U (Jd (Jq Tryz.isAgg9 U (Jm 0 U U)) U U U (Jd (Qt Tryz.underlying9 U) U U U (Jd (Jz (m := p.size) Tryz.underlying46 Tryz.sizeOf4 U U (by omega) (by omega) (by omega)) U U U ?_)))))
  refine Jd (Jq Tryz.isAgg4 U (Mj 1 (f := boolCells) (l := nameRun p s s.size) U (Zu p s _).symm (fun _ => U) (List.getElem?_eq_getElem (show p.size < (nameRun p s s.size).length by omega)) 0 _ U)) U U U ?_
  refine Jd (Ji U) U U U (Ja (hN24 _ _ (Jb [(4,.bool _)] ⟨U,O⟩ fun σ => ?_)))
  refine Ke fun w1 hM => ?_
  refine ⟨_,res1 rfl (rt (v := .bool _) rfl),?_⟩
  exact ⟨by rw [nameM,List.getElem?_eq_getElem (by omega)]; rfl,hM.low⟩
end Go.Proofs.YtbkameioedmlkaaGreatDoor
namespace Go.Proofs.YtbkameioedmlkaaGreatDoor
open Go.RowKit Go.Cf
set_option maxRecDepth 10000
abbrev ek2 (k : Nat × Nat) : Value := .agg #[.int .i64 k.1, .int .i64 k.2]
theorem ck2 (em : Bool) (k : Nat × Nat) (w : World) : (Instr.checkKey em 10000 171 (ek2 k)).run Tryz.prog w = .ok () w := by
  kernel_rfl
theorem eq2 (a b a' b' : Int) (w : World) : (Op.equal 171 (.agg #[.int .i64 a, .int .i64 b]) (.agg #[.int .i64 a', .int .i64 b'])).run Tryz.prog w = .ok (decide (a = a') && decide (b = b')) w := by
  obtain ⟨i, hi⟩ := info_of_underlying Tryz.underlying3
  show (Op.equalIn (9999 + 1) 171 _ _).run _ _ = _
  rw [run_equalIn_array _ _ _ _ Tryz.underlying171 hi]
  have h1 : Tryz.prog.cellsOf 3 = 1 := by kernel_rfl
  have h2 : List.range 2 = [0, 1] := rfl
  rw [h1, h2]
  simp [Op.eqItems, go_sem]
  (repeat' split) <;> simp_all
theorem sm2 (k : Nat × Nat) : Instr.sameBits 10000 (ek2 k) (ek2 k) = true := by
  simp [Instr.sameBits]
theorem key2 : Key Tryz.prog 171 ek2 where
  wide := by kernel_rfl
  check := fun em k w => ck2 em k w
  eq := fun k k' w => by
    rw [eq2]
    congr 1
    rw [Bool.eq_iff_iff]; simp [Prod.ext_iff]; omega
  same := sm2
end Go.Proofs.YtbkameioedmlkaaGreatDoor
namespace Go.Proofs.YtbkameioedmlkaaGreatDoor
open Go.RowKit Go.Cf
set_option maxRecDepth 10000
theorem bd171_0_1 (x1 : Int) (x2 : Int) : Tryz.prog.built 171 [(0, .int .i64 x1), (1, .int .i64 x2)] = some #[.int .i64 x1, .int .i64 x2] := by kernel_rfl
set_option maxHeartbeats 4000000 in
theorem walk1_any (P N : List ByteArray) (A1 A2 : Option Addr) (c1 c2 mb b5 b2 b3 b6 : Nat) (hPs : ∀ x ∈ P, x.size ≤ 4000000) (hNs : ∀ x ∈ N, x.size ≤ 4000000) (hPl : P.length ≤ 4000001) (hNl : N.length ≤ 4000001) (w0 : World) (hP : Rdl w0 0 1 strCells A1 P) (hN : Rdl w0 0 1 strCells A2 N) (m : Nat) : ∀ (i j : Nat) (w : World) (l : List ((Nat × Nat) × Bool)) (fr : Reg), (∀ w1, fr.ok w1 → w1.cell? ⟨b5, 0, none⟩ = some (.map (some mb)) ∧ w1.cell? ⟨b2, 0, none⟩ = some (.slice A1 P.length c1) ∧ w1.cell? ⟨b3, 0, none⟩ = some (.slice A2 N.length c2) ∧ w1.cell? ⟨b6, 0, none⟩ = some (.func (.func 132) #[] #[.pointer (some ⟨b5, 0, none⟩), .pointer (some ⟨b2, 0, none⟩), .pointer (some ⟨b3, 0, none⟩), .pointer (some ⟨b6, 0, none⟩)])) → P.length - i + (N.length - j) = m → i ≤ P.length → j ≤ N.length → MemoOk (wkAt P N) l → Mem w0 [mapr ek2 Value.bool mb l, fr] w → Calls Tryz.prog 132 #[.int .i64 (i : Int), .int .i64 (j : Int), .pointer (some ⟨b5, 0, none⟩), .pointer (some ⟨b2, 0, none⟩), .pointer (some ⟨b3, 0, none⟩), .pointer (some ⟨b6, 0, none⟩)] w fun e w' => e = .returned (.bool (wkAt P N i j)) ∧ ∃ l', MemoOk (wkAt P N) l' ∧ Mem w0 [mapr ek2 Value.bool mb l', fr] w' := by
 refine Nat.strongRecOn m ?_
 intro m ih i j w l fr hF hm hi hj hl hM0
 refine gcallsT Tryz.func132 U Tryz.ntmps132 (leb U) hM0 ?_
 refine Jb [(0,.int _ _),(1,.int _ _),(2,.pointer (some _)),(3,.pointer (some _)),(4,.pointer (some _)),(5,.pointer (some _))] ⟨U,U,U,U,U,U,O⟩ fun σ => Jg fun N1 hN1 => Jk (Jd (Ji U) U U U (Ja (hN1 _ _ (Jb [(0,.int _ _),(1,.int _ _),(2,.pointer (some _)),(3,.pointer (some _)),(4,.pointer (some _)),(5,.pointer (some _))] ⟨U,U,U,U,U,U,O⟩ fun σ => Jg fun N2 hN2 => Jg fun N3 hN3 => Jk (Jd (Jq Tryz.isAgg202 U (fun w hM => (hF w (hM.ok _ (List.mem_of_getElem? (i := 1) U))).1)) U U U (Jd (Jf U) U U U (Jd (Jf U) U U U (Jd (Kd (vs := [(0,.int _ _),(1,.int _ _)]) (cells := #[_,_]) U (bd171_0_1 _ _)) U U U ?_))))))))
 refine Jd (y_lookup 0 (c := true) (v0 := .bool false) (u := .tuple #[.bool ((Go.Cf.look l (i,j)).getD false),.bool (Go.Cf.look l (i,j)).isSome]) key2 Tryz.underlying202 Tryz.zeroValue4 U (i,j) U U (by cases Go.Cf.look l (i,j) <;> rfl)) U U U (Jd (Ju (v := .tuple #[.bool _,.bool _]) U) U U U (Jd (Mi U U) U U U (Jd (Mi U U) U U U (Jd (Ji U) U U U (Jd (Ji U) U U U (Ja (hN3 _ _ (Jb [(0,.int _ _),(1,.int _ _),(2,.pointer (some _)),(3,.pointer (some _)),(4,.pointer (some _)),(5,.pointer (some _)),(9,.bool _),(10,.bool _)] ⟨U,U,U,U,U,U,U,U,O⟩ fun σ => ?_))))))))
 refine Jg fun N4 hN4 => Jk (Jd (Jn U) U U U (Ja (hN4 _ _ (Jb [(0,.int _ _),(1,.int _ _),(2,.pointer (some _)),(3,.pointer (some _)),(4,.pointer (some _)),(5,.pointer (some _)),(9,.bool _),(20,.bool _)] ⟨U,U,U,U,U,U,U,U,O⟩ fun σ => ?_))))
 refine Jt (b := _) U (fun hc20 => ?_) (fun hc20 => ?_)
 refine Jg fun N5 hN5 => Jk (Jd (Jn U) U U U (Jd (Ji U) U U U (Ja (hN5 _ _ (Jb [(8,.bool _)] ⟨U,O⟩ fun σ => ?_)))))
 refine Ke fun w1 hM => ?_
 refine ⟨_,res1 rfl (rt (v := .bool _) rfl),?_⟩
 exact ⟨by rw [memo_hit hl hc20],l,hl,hM⟩
 refine Jw (hN2 _ _ (Jb [(0,.int _ _),(1,.int _ _),(2,.pointer (some _)),(3,.pointer (some _)),(4,.pointer (some _)),(5,.pointer (some _))] ⟨U,U,U,U,U,U,O⟩ fun σ => Jg fun N6 hN6 => Jk (Jd (Ji U) U U U (Ja (hN6 _ _ (Jb [(0,.int _ _),(1,.int _ _),(2,.pointer (some _)),(3,.pointer (some _)),(4,.pointer (some _)),(5,.pointer (some _))] ⟨U,U,U,U,U,U,O⟩ fun σ => Jg fun N7 hN7 => Jb [(0,.int _ _),(1,.int _ _),(2,.pointer (some _)),(3,.pointer (some _)),(4,.pointer (some _)),(5,.pointer (some _))] ⟨U,U,U,U,U,U,O⟩ fun σ => ?_))))))
 refine gcut3 (Lf := [(0,.int _ _),(1,.int _ _),(2,.pointer (some _))]) (G := List ((Nat × Nat) × Bool)) (fun l1 => MemoOk (wkAt P N) l1) (fun l1 => [(11,.bool (wkAt P N i j))]) (fun l1 => [(0,mapr ek2 Value.bool mb l1)]) ⟨U,U,U,O⟩ ?_ ?_
 refine Kn (Jg fun N8 hN8 => Jk (Jd (Jf U) U U U (Jd (Jq Tryz.isAgg22 U (fun w hM => (hF w (hM.ok _ (List.mem_of_getElem? (i := 1) U))).2.1)) U U U (Jd (Ks Tryz.underlying22 U) U U U (Jd (Mc U U) U U U (Jd (Ji U) U U U (Ja (hN8 _ _ ?_))))))))
 refine Jb [(0,.int _ _),(1,.int _ _),(2,.pointer (some _)),(3,.pointer (some _)),(4,.pointer (some _)),(5,.pointer (some _)),(45,.bool _)] ⟨U,U,U,U,U,U,U,O⟩ fun σ => ?_
 refine Jt (b := _) U (fun hc45 => ?_) (fun hc45 => ?_)
 replace hc45 := odt hc45
 obtain rfl : i = P.length := by omega
 refine Jk (Jd (Jf U) U U U (Jd (Jq Tryz.isAgg22 U (fun w hM => (hF w (hM.ok _ (List.mem_of_getElem? (i := 1) U))).2.2.1)) U U U (Jd (Ks Tryz.underlying22 U) U U U (Jd (Mc U U) U U U (Jd (Ji U) U U U (Ja ?_))))))
 refine Ki (l) (hl) ⟨congrArg Value.bool (wk_end hj).symm,trivial⟩ ⟨U,U,U,O⟩ ⟨_,U⟩
 replace hc45 := odf hc45
 have hi1 : i < P.length := by omega
 obtain ⟨ad1,rfl,-,hca⟩ := hP.at_ hi1
 refine Jg fun N9 hN9 => Jk (Jd (Jq Tryz.isAgg22 U (fun w hM => (hF w (hM.ok _ (List.mem_of_getElem? (i := 1) U))).2.1)) U U U (Jd (Jf U) U U U (Jd (Jz (m := i) Tryz.underlying22 Tryz.sizeOf9 U U (by omega) (by omega) (by omega)) U U U (Jd (Jq Tryz.isAgg9 U (Ms (hca 0 _ U))) U U U (Jd (Ur U U) U U U (Jd (Ji U) U U U (Ja (hN9 _ _ ?_))))))))
 refine Jb [(0,.int _ _),(1,.int _ _),(2,.pointer (some _)),(3,.pointer (some _)),(4,.pointer (some _)),(5,.pointer (some _)),(54,.bool _)] ⟨U,U,U,U,U,U,U,O⟩ fun σ => ?_
 refine Jt (b := _) U (fun hc54 => ?_) (fun hc54 => ?_)
 refine Jk (Jd (Jq Tryz.isAgg203 U (fun w hM => (hF w (hM.ok _ (List.mem_of_getElem? (i := 1) U))).2.2.2)) U U U (Jd (Jf U) U U U (Jd (Kr U U ⟨by omega,by omega⟩) U U U (Jd (Jf U) U U U ?_))))
 refine Mu 0 (fun v r G => ∃ l1,v = .bool (wkAt P N (i + 1) (j)) ∧ r = mapr ek2 Value.bool mb l1 ∧ MemoOk (wkAt P N) l1 ∧ G = []) (Wx (vs := [.int _ _,.int _ _]) (cs := [.pointer (some ⟨b5,0,none⟩),.pointer (some ⟨b2,0,none⟩),.pointer (some ⟨b3,0,none⟩),.pointer (some ⟨b6,0,none⟩)]) U Tryz.func132 U (by kernel_rfl) U) U (fun w fr1 hfr hM => (ih (P.length - (i + 1) + (N.length - (j))) (by omega) (i + 1) (j) w _ fr1 (fun w1 ho => hF w1 (hfr 1 _ U (by decide) w1 ho)) U (by omega) (by omega) hl hM).mono fun _ _ ⟨he,l1,h1,h2⟩ => ⟨_,_,[],he,⟨l1,U,U,h1,U⟩,h2⟩) U U U ?_
 rintro _ _ _ ⟨l1,rfl,rfl,hl1,rfl⟩
 refine Jd (Jn U) U U U ?_
 refine Kh (want := false) U U U U U U (fun hg65 => ?_) (fun hg65 => ?_)
 have hg65d := hg65
 refine Jd (Je (Jf U)) U U U (Js U U U U hg65 (Jd (Je (Jq Tryz.isAgg22 U (fun w hM => (hF w (hM.ok _ (List.mem_of_getElem? (i := 1) U))).2.2.1))) U U U (Js U U U U hg65 (Jd (Je (Ks Tryz.underlying22 U)) U U U (Js U U U U hg65 (Jd (Je (Me U U)) U U U (Js U U U U hg65 (Jd (Je (Jn U)) U U U ?_))))))))
 refine Kh (want := true) U U U U U U (fun hg70 => ?_) (fun hg70 => ?_)
 have hg70d := odt hg70
 refine Jd (Je (Jq Tryz.isAgg203 U (fun w hM => (hF w (hM.ok _ (List.mem_of_getElem? (i := 1) U))).2.2.2))) U U U (Js U U U U hg70 (Jd (Je (Jf U)) U U U (Js U U U U hg70 (Jd (Je (Jf U)) U U U (Js U U U U hg70 (Jd (Je (Kr U U ⟨by omega,by omega⟩)) U U U (Js U U U U hg70 ?_)))))))
 refine Mu 0 (fun v r G => ∃ l1,v = .bool (wkAt P N (i) (j + 1)) ∧ r = mapr ek2 Value.bool mb l1 ∧ MemoOk (wkAt P N) l1 ∧ G = []) (Wx (vs := [.int _ _,.int _ _]) (cs := [.pointer (some ⟨b5,0,none⟩),.pointer (some ⟨b2,0,none⟩),.pointer (some ⟨b3,0,none⟩),.pointer (some ⟨b6,0,none⟩)]) U Tryz.func132 U (by kernel_rfl) U) U (fun w fr1 hfr hM => (ih (P.length - (i) + (N.length - (j + 1))) (by omega) (i) (j + 1) w _ fr1 (fun w1 ho => hF w1 (hfr 1 _ U (by decide) w1 ho)) U (by omega) (by omega) hl1 hM).mono fun _ _ ⟨he,l1,h1,h2⟩ => ⟨_,_,[],he,⟨l1,U,U,h1,U⟩,h2⟩) U U U ?_
 rintro _ _ _ ⟨l2,rfl,rfl,hl2,rfl⟩
 refine Js U U U U hg65 (Jd (Je (Jo U hg70 U)) U U U (Jd (Jp U hg65 U) U U U (Jd (Ji U) U U U (Ja ?_))))
 refine Ki (l2) (hl2) ⟨congrArg Value.bool (wk_star2 hi1 hc54 hg65d (by omega)).symm,trivial⟩ ⟨U,U,U,O⟩ ⟨_,U⟩
 have hg70d := odf hg70
 refine Jj U U U U hg70 U U (Jj U U U U hg70 U U (Jj U U U U hg70 U U (Jj U U U U hg70 U U (Js U U U U hg65 (Jd (Je (Jp U hg70 U)) U U U (Jd (Jp U hg65 U) U U U (Jd (Ji U) U U U (Ja ?_))))))))
 refine Ki (l1) (hl1) ⟨congrArg Value.bool (wk_star3 hi1 hc54 hg65d (by omega)).symm,trivial⟩ ⟨U,U,U,O⟩ ⟨_,U⟩
 have hg65d := hg65
 refine Jj U U U U hg65 U U (Jj U U U U hg65 U U (Jj U U U U hg65 U U (Jj U U U U hg65 U U (Mf U U U U U U (Mf U U U U U U (Mf U U U U U U (Mf U U U U U U (Mf U U U U U U ?_))))))))
 refine Jj U U U U hg65 U U (Jd (Jo U hg65 U) U U U (Jd (Ji U) U U U (Ja ?_)))
 refine Ki (l1) (hl1) ⟨congrArg Value.bool (wk_star1 hi1 hc54 (by simpa using hg65d)).symm,trivial⟩ ⟨U,U,U,O⟩ ⟨_,U⟩
 refine Xv [21] (by kernel_rfl) ?_
 refine Jv 0 (TK := [mapr _ _ _ _,fr]) U (by kernel_rfl) (by kernel_rfl) (by kernel_rfl) #[false,true,true,false,false,false,false,false,false,false,false,false,false,false,false,false,false,false,false,false,false,false,false,false] (by kernel_rfl) U (Jf U) U U U (Kc) (listed' := #[true,false,false,false,false,false,false,false,false,false,false,false,false,false,false,false,false,false,false,false,false,false,false,false]) U ?_
 refine Jv 1 (TK := [mapr _ _ _ _,fr]) U (by kernel_rfl) (by kernel_rfl) (by kernel_rfl) #[true,false,false,false,false,false,false,false,false,false,false,false,false,false,false,false,false,false,false,false,false,false,false,false] (by kernel_rfl) U (Jq Tryz.isAgg22 U (fun w hM => (hF w (hM.ok _ (List.mem_of_getElem? (i := 1) U))).2.2.1)) U U U (Kc) (listed' := #[true,true,false,false,false,false,false,false,false,false,false,false,false,false,false,false,false,false,false,false,false,false,false,false]) U ?_
 refine Jv 2 (TK := [mapr _ _ _ _,fr]) U (by kernel_rfl) (by kernel_rfl) (by kernel_rfl) #[true,true,false,false,false,false,false,false,false,false,false,false,false,false,false,false,false,false,false,false,false,false,false,false] (by kernel_rfl) U (Ks Tryz.underlying22 U) U U U (Kc) (listed' := #[true,true,true,false,false,false,false,false,false,false,false,false,false,false,false,false,false,false,false,false,false,false,false,false]) U ?_
 refine Jv 3 (TK := [mapr _ _ _ _,fr]) U (by kernel_rfl) (by kernel_rfl) (by kernel_rfl) #[true,true,true,false,false,false,false,false,false,false,false,false,false,false,false,false,false,false,false,false,false,false,false,false] (by kernel_rfl) U (Me U U) U U U (Kc) (listed' := #[true,true,true,true,false,false,false,false,false,false,false,false,false,false,false,false,false,false,false,false,false,false,false,false]) U ?_
 refine Jv 4 (TK := [mapr _ _ _ _,fr]) U (by kernel_rfl) (by kernel_rfl) (by kernel_rfl) #[true,true,true,true,false,false,false,false,false,false,false,false,false,false,false,false,false,false,false,false,false,false,false,false] (by kernel_rfl) U (Jn U) U U U (Kc) (listed' := #[true,true,true,true,true,false,false,false,false,false,false,false,false,false,false,false,false,false,false,false,false,false,false,false]) U ?_
 refine ge_dec 26 true U (fun hg26 => ?_) (fun hg26 => ?_)
 have hg26d := odt hg26
 have hj1 : j < N.length := by omega
 obtain ⟨ad2,rfl,-,hcb⟩ := hN.at_ hj1
 refine Qv 5 (TK := [mapr _ _ _ _,fr]) U (by kernel_rfl) (by kernel_rfl) (by kernel_rfl) #[true,true,true,true,true,false,true,false,false,true,true,true,true,false,false,false,false,false,false,false,false,false,false,false] (by kernel_rfl) U U U U U hg26 (Je (Jq Tryz.isAgg22 U (fun w hM => (hF w (hM.ok _ (List.mem_of_getElem? (i := 1) U))).2.1))) U U (Kc) (listed' := #[true,true,true,true,true,true,false,false,false,false,false,false,false,false,false,false,false,false,false,false,false,false,false,false]) U ?_
 refine Qv 6 (TK := [mapr _ _ _ _,fr]) U (by kernel_rfl) (by kernel_rfl) (by kernel_rfl) #[true,true,true,true,true,true,false,false,false,true,true,true,true,false,false,false,false,false,false,false,false,false,false,false] (by kernel_rfl) U U U U U hg26 (Je (Jf U)) U U (Kc) (listed' := #[true,true,true,true,true,true,true,false,false,false,false,false,false,false,false,false,false,false,false,false,false,false,false,false]) U ?_
 refine Qv 7 (TK := [mapr _ _ _ _,fr]) U (by kernel_rfl) (by kernel_rfl) (by kernel_rfl) #[true,true,true,true,true,true,true,false,false,true,true,true,true,false,false,false,false,false,false,false,false,false,false,false] (by kernel_rfl) U U U U U hg26 (Je (Jz (m := i) Tryz.underlying22 Tryz.sizeOf9 U U (by omega) (by omega) (by omega))) U U (Kc) (listed' := #[true,true,true,true,true,true,true,true,false,false,false,false,false,false,false,false,false,false,false,false,false,false,false,false]) U ?_
 refine Qv 8 (TK := [mapr _ _ _ _,fr]) U (by kernel_rfl) (by kernel_rfl) (by kernel_rfl) #[true,true,true,true,true,true,true,true,false,true,true,true,true,false,false,false,false,false,false,false,false,false,false,false] (by kernel_rfl) U U U U U hg26 (Je (Jq Tryz.isAgg9 U (Ms (hca 0 _ U)))) U U (Kc) (listed' := #[true,true,true,true,true,true,true,true,true,false,false,false,false,false,false,false,false,false,false,false,false,false,false,false]) U ?_
 refine Qv 9 (TK := [mapr _ _ _ _,fr]) U (by kernel_rfl) (by kernel_rfl) (by kernel_rfl) #[true,true,true,true,true,true,true,true,true,false,true,false,false,false,false,false,false,false,false,false,false,false,false,false] (by kernel_rfl) U U U U U hg26 (Je (Jq Tryz.isAgg22 U (fun w hM => (hF w (hM.ok _ (List.mem_of_getElem? (i := 1) U))).2.2.1))) U U (Kc) (listed' := #[true,true,true,true,true,true,true,true,true,true,false,false,false,false,false,false,false,false,false,false,false,false,false,false]) U ?_
 refine Qv 10 (TK := [mapr _ _ _ _,fr]) U (by kernel_rfl) (by kernel_rfl) (by kernel_rfl) #[true,true,true,true,true,true,true,true,true,true,false,false,false,false,false,false,false,false,false,false,false,false,false,false] (by kernel_rfl) U U U U U hg26 (Je (Jf U)) U U (Kc) (listed' := #[true,true,true,true,true,true,true,true,true,true,true,false,false,false,false,false,false,false,false,false,false,false,false,false]) U ?_
 refine Qv 11 (TK := [mapr _ _ _ _,fr]) U (by kernel_rfl) (by kernel_rfl) (by kernel_rfl) #[true,true,true,true,true,true,true,true,true,true,true,false,false,false,false,false,false,false,false,false,false,false,false,false] (by kernel_rfl) U U U U U hg26 (Je (Jz (m := j) Tryz.underlying22 Tryz.sizeOf9 U U (by omega) (by omega) (by omega))) U U (Kc) (listed' := #[true,true,true,true,true,true,true,true,true,true,true,true,false,false,false,false,false,false,false,false,false,false,false,false]) U ?_
 refine Qv 12 (TK := [mapr _ _ _ _,fr]) U (by kernel_rfl) (by kernel_rfl) (by kernel_rfl) #[true,true,true,true,true,true,true,true,true,true,true,true,false,false,false,false,false,false,false,false,false,false,false,false] (by kernel_rfl) U U U U U hg26 (Je (Jq Tryz.isAgg9 U (Ms (hcb 0 _ U)))) U U (Kc) (listed' := #[true,true,true,true,true,true,true,true,true,true,true,true,true,false,false,false,false,false,false,false,false,false,false,false]) U ?_
 refine Mr 13 (k' := 0) (listed' := #[true,true,true,true,true,true,true,true,true,true,true,true,true,true,false,false,false,false,false,false,false,false,false,false]) (by kernel_rfl) U U U ?_
 refine Js U U U U hg26 ?_
 refine Km (Kb (vs := [.string _,.string _]) Tryz.func133 U (by kernel_rfl) U) (fun w hM => name_any w _ _ (hPs _ (List.getElem_mem hi1)) (hNs _ (List.getElem_mem hj1))) U U U ?_
 refine Ja ?_
 refine Mo (TK := [mapr _ _ _ _,fr]) U (Kc) ?_
 refine Jv 14 (TK := [mapr _ _ _ _,fr]) U (by kernel_rfl) (by kernel_rfl) (by kernel_rfl) #[true,true,true,true,true,true,true,true,true,true,true,true,true,true,false,false,false,false,false,false,false,false,false,false] (by kernel_rfl) U (Jo U hg26 U) U U U (Kc) (listed' := #[true,true,true,true,true,true,true,true,true,true,true,true,true,true,true,false,false,false,false,false,false,false,false,false]) U ?_
 refine Jv 15 (TK := [mapr _ _ _ _,fr]) U (by kernel_rfl) (by kernel_rfl) (by kernel_rfl) #[true,true,true,true,true,true,true,true,true,true,true,true,true,true,true,false,false,false,false,false,false,false,false,false] (by kernel_rfl) U (Jn U) U U U (Kc) (listed' := #[true,true,true,true,true,true,true,true,true,true,true,true,true,true,true,true,false,false,false,false,false,false,false,false]) U ?_
 refine ge_dec 37 true U (fun hg37 => ?_) (fun hg37 => ?_)
 have hg37d := hg37
 refine Qv 16 (TK := [mapr _ _ _ _,fr]) U (by kernel_rfl) (by kernel_rfl) (by kernel_rfl) #[true,true,true,true,true,true,true,true,true,true,true,true,true,true,true,true,false,true,true,true,true,false,false,false] (by kernel_rfl) U U U U U hg37 (Je (Jq Tryz.isAgg203 U (fun w hM => (hF w (hM.ok _ (List.mem_of_getElem? (i := 1) U))).2.2.2))) U U (Kc) (listed' := #[true,true,true,true,true,true,true,true,true,true,true,true,true,true,true,true,true,false,false,false,false,false,false,false]) U ?_
 refine Qv 17 (TK := [mapr _ _ _ _,fr]) U (by kernel_rfl) (by kernel_rfl) (by kernel_rfl) #[true,true,true,true,true,true,true,true,true,true,true,true,true,true,true,true,true,false,false,true,true,false,false,false] (by kernel_rfl) U U U U U hg37 (Je (Jf U)) U U (Kc) (listed' := #[true,true,true,true,true,true,true,true,true,true,true,true,true,true,true,true,true,true,false,false,false,false,false,false]) U ?_
 refine Qv 18 (TK := [mapr _ _ _ _,fr]) U (by kernel_rfl) (by kernel_rfl) (by kernel_rfl) #[true,true,true,true,true,true,true,true,true,true,true,true,true,true,true,true,true,true,false,true,true,false,false,false] (by kernel_rfl) U U U U U hg37 (Je (Kr U U ⟨by omega,by omega⟩)) U U (Kc) (listed' := #[true,true,true,true,true,true,true,true,true,true,true,true,true,true,true,true,true,true,true,false,false,false,false,false]) U ?_
 refine Qv 19 (TK := [mapr _ _ _ _,fr]) U (by kernel_rfl) (by kernel_rfl) (by kernel_rfl) #[true,true,true,true,true,true,true,true,true,true,true,true,true,true,true,true,true,true,true,false,false,false,false,false] (by kernel_rfl) U U U U U hg37 (Je (Jf U)) U U (Kc) (listed' := #[true,true,true,true,true,true,true,true,true,true,true,true,true,true,true,true,true,true,true,true,false,false,false,false]) U ?_
 refine Qv 20 (TK := [mapr _ _ _ _,fr]) U (by kernel_rfl) (by kernel_rfl) (by kernel_rfl) #[true,true,true,true,true,true,true,true,true,true,true,true,true,true,true,true,true,true,true,true,false,false,false,false] (by kernel_rfl) U U U U U hg37 (Je (Kr U U ⟨by omega,by omega⟩)) U U (Kc) (listed' := #[true,true,true,true,true,true,true,true,true,true,true,true,true,true,true,true,true,true,true,true,true,false,false,false]) U ?_
 refine Mr 21 (k' := 1) (listed' := #[true,true,true,true,true,true,true,true,true,true,true,true,true,true,true,true,true,true,true,true,true,true,false,false]) (by kernel_rfl) U U U ?_
 refine Js U U U U hg37 ?_
 refine Mu 0 (fun v r G => ∃ l1,v = .bool (wkAt P N (i + 1) (j + 1)) ∧ r = mapr ek2 Value.bool mb l1 ∧ MemoOk (wkAt P N) l1 ∧ G = []) (Wx (vs := [.int _ _,.int _ _]) (cs := [.pointer (some ⟨b5,0,none⟩),.pointer (some ⟨b2,0,none⟩),.pointer (some ⟨b3,0,none⟩),.pointer (some ⟨b6,0,none⟩)]) U Tryz.func132 U (by kernel_rfl) U) U (fun w fr1 hfr hM => (ih (P.length - (i + 1) + (N.length - (j + 1))) (by omega) (i + 1) (j + 1) w _ fr1 (fun w1 ho => hF w1 (hfr 1 _ U (by decide) w1 ho)) U (by omega) (by omega) hl hM).mono fun _ _ ⟨he,l1,h1,h2⟩ => ⟨_,_,[],he,⟨l1,U,U,h1,U⟩,h2⟩) U U U ?_
 rintro _ _ _ ⟨l1,rfl,rfl,hl1,rfl⟩
 refine Ja ?_
 refine Mo (TK := []) U (Qn) ?_
 refine Jv 22 (TK := []) U (by kernel_rfl) (by kernel_rfl) (by kernel_rfl) #[true,true,true,true,true,true,true,true,true,true,true,true,true,true,true,true,true,true,true,true,true,true,false,false] (by kernel_rfl) U (Jo U hg37 U) U U U (Qn) (listed' := #[true,true,true,true,true,true,true,true,true,true,true,true,true,true,true,true,true,true,true,true,true,true,true,false]) U ?_
 refine Jv 23 (TK := []) U (by kernel_rfl) (by kernel_rfl) (by kernel_rfl) #[true,true,true,true,true,true,true,true,true,true,true,true,true,true,true,true,true,true,true,true,true,true,true,false] (by kernel_rfl) U (Ji U) U U U (Qn) (listed' := #[true,true,true,true,true,true,true,true,true,true,true,true,true,true,true,true,true,true,true,true,true,true,true,true]) U ?_
 refine Qd (by kernel_rfl) ?_
 refine Ki (l1) (hl1) ⟨congrArg Value.bool (by rw [wk_name hi1 hc54 hj1,hg37d,Bool.true_and]),trivial⟩ ⟨U,U,U,O⟩ ⟨_,U⟩
 have hg37d := hg37
 refine Qc 16 (TK := [mapr _ _ _ _,fr]) U (by kernel_rfl) (by kernel_rfl) (by kernel_rfl) #[true,true,true,true,true,true,true,true,true,true,true,true,true,true,true,true,false,true,true,true,true,false,false,false] (by kernel_rfl) U U U U U (Us hg37) U U (Kc) (listed' := #[true,true,true,true,true,true,true,true,true,true,true,true,true,true,true,true,true,false,false,false,false,false,false,false]) U ?_
 refine Qc 17 (TK := [mapr _ _ _ _,fr]) U (by kernel_rfl) (by kernel_rfl) (by kernel_rfl) #[true,true,true,true,true,true,true,true,true,true,true,true,true,true,true,true,true,false,false,true,true,false,false,false] (by kernel_rfl) U U U U U (Us hg37) U U (Kc) (listed' := #[true,true,true,true,true,true,true,true,true,true,true,true,true,true,true,true,true,true,false,false,false,false,false,false]) U ?_
 refine Qc 18 (TK := [mapr _ _ _ _,fr]) U (by kernel_rfl) (by kernel_rfl) (by kernel_rfl) #[true,true,true,true,true,true,true,true,true,true,true,true,true,true,true,true,true,true,false,true,true,false,false,false] (by kernel_rfl) U U U U U (Us hg37) U U (Kc) (listed' := #[true,true,true,true,true,true,true,true,true,true,true,true,true,true,true,true,true,true,true,false,false,false,false,false]) U ?_
 refine Qc 19 (TK := [mapr _ _ _ _,fr]) U (by kernel_rfl) (by kernel_rfl) (by kernel_rfl) #[true,true,true,true,true,true,true,true,true,true,true,true,true,true,true,true,true,true,true,false,false,false,false,false] (by kernel_rfl) U U U U U (Us hg37) U U (Kc) (listed' := #[true,true,true,true,true,true,true,true,true,true,true,true,true,true,true,true,true,true,true,true,false,false,false,false]) U ?_
 refine Qc 20 (TK := [mapr _ _ _ _,fr]) U (by kernel_rfl) (by kernel_rfl) (by kernel_rfl) #[true,true,true,true,true,true,true,true,true,true,true,true,true,true,true,true,true,true,true,true,false,false,false,false] (by kernel_rfl) U U U U U (Us hg37) U U (Kc) (listed' := #[true,true,true,true,true,true,true,true,true,true,true,true,true,true,true,true,true,true,true,true,true,false,false,false]) U ?_
 refine Mr 21 (k' := 1) (listed' := #[true,true,true,true,true,true,true,true,true,true,true,true,true,true,true,true,true,true,true,true,true,true,false,false]) (by kernel_rfl) U U U ?_
 refine Jj U U U U hg37 U U (Ja ?_)
 refine Mo (TK := []) U (Qn) ?_
 refine Jv 22 (TK := []) U (by kernel_rfl) (by kernel_rfl) (by kernel_rfl) #[true,true,true,true,true,true,true,true,true,true,true,true,true,true,true,true,true,true,true,true,true,true,false,false] (by kernel_rfl) U (Jp U hg37 U) U U U (Qn) (listed' := #[true,true,true,true,true,true,true,true,true,true,true,true,true,true,true,true,true,true,true,true,true,true,true,false]) U ?_
 refine Jv 23 (TK := []) U (by kernel_rfl) (by kernel_rfl) (by kernel_rfl) #[true,true,true,true,true,true,true,true,true,true,true,true,true,true,true,true,true,true,true,true,true,true,true,false] (by kernel_rfl) U (Ji U) U U U (Qn) (listed' := #[true,true,true,true,true,true,true,true,true,true,true,true,true,true,true,true,true,true,true,true,true,true,true,true]) U ?_
 refine Qd (by kernel_rfl) ?_
 refine Ki (l) (hl) ⟨congrArg Value.bool (by rw [wk_name hi1 hc54 hj1,hg37d]; rfl),trivial⟩ ⟨U,U,U,O⟩ ⟨_,U⟩
 have hg26d := odf hg26
 refine Qc 5 (TK := [mapr _ _ _ _,fr]) U (by kernel_rfl) (by kernel_rfl) (by kernel_rfl) #[true,true,true,true,true,false,true,false,false,true,true,true,true,false,false,false,false,false,false,false,false,false,false,false] (by kernel_rfl) U U U U U (Us hg26) U U (Kc) (listed' := #[true,true,true,true,true,true,false,false,false,false,false,false,false,false,false,false,false,false,false,false,false,false,false,false]) U ?_
 refine Qc 6 (TK := [mapr _ _ _ _,fr]) U (by kernel_rfl) (by kernel_rfl) (by kernel_rfl) #[true,true,true,true,true,true,false,false,false,true,true,true,true,false,false,false,false,false,false,false,false,false,false,false] (by kernel_rfl) U U U U U (Us hg26) U U (Kc) (listed' := #[true,true,true,true,true,true,true,false,false,false,false,false,false,false,false,false,false,false,false,false,false,false,false,false]) U ?_
 refine Qc 7 (TK := [mapr _ _ _ _,fr]) U (by kernel_rfl) (by kernel_rfl) (by kernel_rfl) #[true,true,true,true,true,true,true,false,false,true,true,true,true,false,false,false,false,false,false,false,false,false,false,false] (by kernel_rfl) U U U U U (Us hg26) U U (Kc) (listed' := #[true,true,true,true,true,true,true,true,false,false,false,false,false,false,false,false,false,false,false,false,false,false,false,false]) U ?_
 refine Qc 8 (TK := [mapr _ _ _ _,fr]) U (by kernel_rfl) (by kernel_rfl) (by kernel_rfl) #[true,true,true,true,true,true,true,true,false,true,true,true,true,false,false,false,false,false,false,false,false,false,false,false] (by kernel_rfl) U U U U U (Us hg26) U U (Kc) (listed' := #[true,true,true,true,true,true,true,true,true,false,false,false,false,false,false,false,false,false,false,false,false,false,false,false]) U ?_
 refine Qc 9 (TK := [mapr _ _ _ _,fr]) U (by kernel_rfl) (by kernel_rfl) (by kernel_rfl) #[true,true,true,true,true,true,true,true,true,false,true,false,false,false,false,false,false,false,false,false,false,false,false,false] (by kernel_rfl) U U U U U (Us hg26) U U (Kc) (listed' := #[true,true,true,true,true,true,true,true,true,true,false,false,false,false,false,false,false,false,false,false,false,false,false,false]) U ?_
 refine Qc 10 (TK := [mapr _ _ _ _,fr]) U (by kernel_rfl) (by kernel_rfl) (by kernel_rfl) #[true,true,true,true,true,true,true,true,true,true,false,false,false,false,false,false,false,false,false,false,false,false,false,false] (by kernel_rfl) U U U U U (Us hg26) U U (Kc) (listed' := #[true,true,true,true,true,true,true,true,true,true,true,false,false,false,false,false,false,false,false,false,false,false,false,false]) U ?_
 refine Qc 11 (TK := [mapr _ _ _ _,fr]) U (by kernel_rfl) (by kernel_rfl) (by kernel_rfl) #[true,true,true,true,true,true,true,true,true,true,true,false,false,false,false,false,false,false,false,false,false,false,false,false] (by kernel_rfl) U U U U U (Us hg26) U U (Kc) (listed' := #[true,true,true,true,true,true,true,true,true,true,true,true,false,false,false,false,false,false,false,false,false,false,false,false]) U ?_
 refine Qc 12 (TK := [mapr _ _ _ _,fr]) U (by kernel_rfl) (by kernel_rfl) (by kernel_rfl) #[true,true,true,true,true,true,true,true,true,true,true,true,false,false,false,false,false,false,false,false,false,false,false,false] (by kernel_rfl) U U U U U (Us hg26) U U (Kc) (listed' := #[true,true,true,true,true,true,true,true,true,true,true,true,true,false,false,false,false,false,false,false,false,false,false,false]) U ?_
 refine Mr 13 (k' := 0) (listed' := #[true,true,true,true,true,true,true,true,true,true,true,true,true,true,false,false,false,false,false,false,false,false,false,false]) (by kernel_rfl) U U U ?_
 refine Jj U U U U hg26 U U (Ja ?_)
 refine Mo (TK := [mapr _ _ _ _,fr]) U (Kc) ?_
 refine Jv 14 (TK := [mapr _ _ _ _,fr]) U (by kernel_rfl) (by kernel_rfl) (by kernel_rfl) #[true,true,true,true,true,true,true,true,true,true,true,true,true,true,false,false,false,false,false,false,false,false,false,false] (by kernel_rfl) U (Jp U hg26 U) U U U (Kc) (listed' := #[true,true,true,true,true,true,true,true,true,true,true,true,true,true,true,false,false,false,false,false,false,false,false,false]) U ?_
 refine Jv 15 (TK := [mapr _ _ _ _,fr]) U (by kernel_rfl) (by kernel_rfl) (by kernel_rfl) #[true,true,true,true,true,true,true,true,true,true,true,true,true,true,true,false,false,false,false,false,false,false,false,false] (by kernel_rfl) U (Jn U) U U U (Kc) (listed' := #[true,true,true,true,true,true,true,true,true,true,true,true,true,true,true,true,false,false,false,false,false,false,false,false]) U ?_
 refine Qc 16 (TK := [mapr _ _ _ _,fr]) U (by kernel_rfl) (by kernel_rfl) (by kernel_rfl) #[true,true,true,true,true,true,true,true,true,true,true,true,true,true,true,true,false,true,true,true,true,false,false,false] (by kernel_rfl) U U U U U (Us U) U U (Kc) (listed' := #[true,true,true,true,true,true,true,true,true,true,true,true,true,true,true,true,true,false,false,false,false,false,false,false]) U ?_
 refine Qc 17 (TK := [mapr _ _ _ _,fr]) U (by kernel_rfl) (by kernel_rfl) (by kernel_rfl) #[true,true,true,true,true,true,true,true,true,true,true,true,true,true,true,true,true,false,false,true,true,false,false,false] (by kernel_rfl) U U U U U (Us U) U U (Kc) (listed' := #[true,true,true,true,true,true,true,true,true,true,true,true,true,true,true,true,true,true,false,false,false,false,false,false]) U ?_
 refine Qc 18 (TK := [mapr _ _ _ _,fr]) U (by kernel_rfl) (by kernel_rfl) (by kernel_rfl) #[true,true,true,true,true,true,true,true,true,true,true,true,true,true,true,true,true,true,false,true,true,false,false,false] (by kernel_rfl) U U U U U (Us U) U U (Kc) (listed' := #[true,true,true,true,true,true,true,true,true,true,true,true,true,true,true,true,true,true,true,false,false,false,false,false]) U ?_
 refine Qc 19 (TK := [mapr _ _ _ _,fr]) U (by kernel_rfl) (by kernel_rfl) (by kernel_rfl) #[true,true,true,true,true,true,true,true,true,true,true,true,true,true,true,true,true,true,true,false,false,false,false,false] (by kernel_rfl) U U U U U (Us U) U U (Kc) (listed' := #[true,true,true,true,true,true,true,true,true,true,true,true,true,true,true,true,true,true,true,true,false,false,false,false]) U ?_
 refine Qc 20 (TK := [mapr _ _ _ _,fr]) U (by kernel_rfl) (by kernel_rfl) (by kernel_rfl) #[true,true,true,true,true,true,true,true,true,true,true,true,true,true,true,true,true,true,true,true,false,false,false,false] (by kernel_rfl) U U U U U (Us U) U U (Kc) (listed' := #[true,true,true,true,true,true,true,true,true,true,true,true,true,true,true,true,true,true,true,true,true,false,false,false]) U ?_
 refine Mr 21 (k' := 1) (listed' := #[true,true,true,true,true,true,true,true,true,true,true,true,true,true,true,true,true,true,true,true,true,true,false,false]) (by kernel_rfl) U U U ?_
 refine Jj U U U U U U U (Ja ?_)
 refine Mo (TK := []) U (Qn) ?_
 refine Jv 22 (TK := []) U (by kernel_rfl) (by kernel_rfl) (by kernel_rfl) #[true,true,true,true,true,true,true,true,true,true,true,true,true,true,true,true,true,true,true,true,true,true,false,false] (by kernel_rfl) U (Jp U U U) U U U (Qn) (listed' := #[true,true,true,true,true,true,true,true,true,true,true,true,true,true,true,true,true,true,true,true,true,true,true,false]) U ?_
 refine Jv 23 (TK := []) U (by kernel_rfl) (by kernel_rfl) (by kernel_rfl) #[true,true,true,true,true,true,true,true,true,true,true,true,true,true,true,true,true,true,true,true,true,true,true,false] (by kernel_rfl) U (Ji U) U U U (Qn) (listed' := #[true,true,true,true,true,true,true,true,true,true,true,true,true,true,true,true,true,true,true,true,true,true,true,true]) U ?_
 refine Qd (by kernel_rfl) ?_
 refine Ki (l) (hl) ⟨congrArg Value.bool (wk_name0 hi1 hc54 (by omega)).symm,trivial⟩ ⟨U,U,U,O⟩ ⟨_,U⟩
 intro l1 hcut σ
 refine hN7 _ _ ?_
 have hl1 := hcut
 refine Jg fun N10 hN10 => Jk (Jd (Jq Tryz.isAgg202 U (fun w hM => (hF w (hM.ok _ (List.mem_of_getElem? (i := 1) U))).1)) U U U (Jd (Jf U) U U U (Jd (Jf U) U U U (Jd (Kd (vs := [(0,.int _ _),(1,.int _ _)]) (cells := #[_,_]) U (bd171_0_1 _ _)) U U U (Jd (Jn U) U U U ?_)))))
 refine gop_mapUpdate 0 key2 Tryz.underlying202 U ((i,j)) (_) U U U U U ?_
 refine Ja (hN10 _ _ (gT [mapr _ _ _ _,fr] U (Jb [(11,.bool _)] ⟨U,O⟩ fun σ => Jg fun N11 hN11 => Jk (Jd (Jn U) U U U (Jd (Ji U) U U U (Ja (hN11 _ _ (Jb [(8,.bool _)] ⟨U,O⟩ fun σ => ?_))))))))
 refine Ke fun w1 hM => ?_
 refine ⟨_,res1 rfl (rt (v := .bool _) rfl),?_⟩
 exact ⟨rfl,_,memo_put hl1 i j,hM⟩
set_option maxHeartbeats 1000000 in
theorem walk_any (w : World) (P N : List ByteArray) (A1 A2 : Option Addr) (c1 c2 : Nat) (hPs : ∀ x ∈ P, x.size ≤ 4000000) (hNs : ∀ x ∈ N, x.size ≤ 4000000) (hPl : P.length ≤ 4000001) (hNl : N.length ≤ 4000001) (hP : Rdl w 0 1 strCells A1 P) (hN : Rdl w 0 1 strCells A2 N) : Calls Tryz.prog 107 #[.slice A1 P.length c1, .slice A2 N.length c2] w fun e w' => e = .returned (.bool (wkAt P N 0 0)) ∧ Below w.heap.size w w' := by
 refine Kz Tryz.func107 U Tryz.ntmps107 (leb U) ?_
 refine Jb [(0,.slice _ _ _),(1,.slice _ _ _)] ⟨U,U,O⟩ fun σ => Jg fun N1 hN1 => Jk ?_
 refine Mt (v := .slice _ _ _) (cs := #[_]) U U U (fun b2 hb2 => ?_)
 refine Mt (v := .slice _ _ _) (cs := #[_]) U U U (fun b3 hb3 => ?_)
 refine Jd (Ji U) U U U (Ja (hN1 _ _ (gT [box b2 _,box b3 _] U (Jb [(2,.pointer _),(3,.pointer _)] ⟨U,U,O⟩ fun σ => Jg fun N2 hN2 => Jk ?_))))
 refine gop_makeMap ek2 Value.bool U (fun b7 hb7 => ?_)
 refine Ka (cs := #[.map none]) Tryz.zeroValue202 U U (fun b5 hb5 => ?_)
 refine Jr 3 (v := .map (some b7)) (cs' := #[_]) U U Tryz.sizeOf202 U U U U (leb U) U U (Ja (hN2 _ _ (gT [box b2 _,box b3 _,mapr _ _ _ _,box b5 _] U (Jb [(2,.pointer _),(3,.pointer _),(5,.pointer _)] ⟨U,U,U,O⟩ fun σ => Jg fun N3 hN3 => Jk ?_))))
 refine Ka (cs := #[.nilFunc]) Tryz.zeroValue203 U U (fun b6 hb6 => ?_)
 refine Ja (hN3 _ _ (gT [box b2 _,box b3 _,mapr _ _ _ _,box b5 _,box b6 _] U (Jb [(2,.pointer _),(3,.pointer _),(5,.pointer _),(6,.pointer _)] ⟨U,U,U,U,O⟩ fun σ => Jg fun N4 hN4 => Jk (Jd (Ym (vs := [.pointer (some ⟨b5,0,none⟩),.pointer (some ⟨b2,0,none⟩),.pointer (some ⟨b3,0,none⟩),.pointer (some ⟨b6,0,none⟩)]) U) U U U (Jr 4 (v := .func (.func 132) #[] #[.pointer (some ⟨b5,0,none⟩),.pointer (some ⟨b2,0,none⟩),.pointer (some ⟨b3,0,none⟩),.pointer (some ⟨b6,0,none⟩)]) (cs' := #[_]) U U Tryz.sizeOf203 U U U U (leb U) U U (Ja (hN4 _ _ (gT [box b2 _,box b3 _,mapr _ _ _ _,box b5 _,box b6 _] U ?_))))))))
 refine Jb [(6,.pointer _)] ⟨U,O⟩ fun σ => Jg fun N5 hN5 => Jk (Jd (Jq Tryz.isAgg203 U (Jm 4 U U)) U U U ?_)
 refine Mu 2 (fun v r G => ∃ l1,v = .bool (wkAt P N 0 0) ∧ r = mapr ek2 Value.bool b7 l1 ∧ G = []) (Wx (vs := [.int _ _,.int _ _]) (cs := [.pointer (some ⟨b5,0,none⟩),.pointer (some ⟨b2,0,none⟩),.pointer (some ⟨b3,0,none⟩),.pointer (some ⟨b6,0,none⟩)]) U Tryz.func132 U (by kernel_rfl) U) U (fun w fr1 hfr hM => (walk1_any P N _ _ _ _ b7 b5 b2 b3 b6 hPs hNs hPl hNl _ hP hN _ 0 0 w [] fr1 (fun w1 ho => ⟨Xc (hfr 3 _ U (by decide) w1 ho) U,Xc (hfr 0 _ U (by decide) w1 ho) U,Xc (hfr 1 _ U (by decide) w1 ho) U,Xc (hfr 4 _ U (by decide) w1 ho) U⟩) U (Nat.zero_le _) (Nat.zero_le _) (memo_nil _) hM).mono fun _ _ ⟨he,l1,h1,h2⟩ => ⟨_,_,[],he,⟨l1,U,U,U⟩,h2⟩) U U U ?_
 rintro _ _ _ ⟨l1,rfl,rfl,rfl⟩
 refine Jd (Ji U) U U U (Ja (hN5 _ _ (gT [box b2 _,box b3 _,mapr _ _ _ _,box b5 _,box b6 _] U (Jb [(4,.bool _)] ⟨U,O⟩ fun σ => ?_))))
 refine Ke fun w1 hM => ?_
 refine ⟨_,res1 rfl (rt (v := .bool _) rfl),?_⟩
 exact ⟨rfl,hM.low⟩
set_option maxHeartbeats 1000000 in
theorem matches_any (w : World) (p s : ByteArray) (hp : p.size ≤ 4000000) (hs : s.size ≤ 4000000) : Calls Tryz.prog 76 #[.string p, .string s] w fun e w' => e = .returned (.bool (wk (cutS p) (cutS s))) ∧ Below w.heap.size w w' := by
 have hc1 := cutS_len p
 have hc2 := cutS_len s
 refine Kz Tryz.func76 U Tryz.ntmps76 (leb U) ?_
 refine Jb [(0,.string _),(1,.string _)] ⟨U,U,O⟩ fun σ => Jg fun N1 hN1 => Jk (Jd (Ji U) U U U (Ja (hN1 _ _ (Jb [(0,.string _),(1,.string _)] ⟨U,U,O⟩ fun σ => Jg fun N2 hN2 => Jk (Jd (Ku U) U U U ?_)))))
 refine My (fun v T' => ∃ lo,w.heap.size ≤ lo ∧ T' = [rowl strCells lo 9 1 v (cutS p)]) (Kb (vs := [.string _,_]) Tryz.func108 U (by kernel_rfl) U) (fun w hM => (split_any w p hp).mono fun _ _ ⟨v,T1,h1,h2,h3⟩ => ⟨v,T1,h1,⟨_,hM.low.size,h2⟩,h3⟩) U U U ?_
 rintro v6 _ ⟨lo6,hlo6,rfl⟩
 refine Ky (fun w hM => Mz (hM.ok _ (List.mem_of_getElem? (i := 0) U))) ?_
 rintro ⟨A6,c6,rfl,hc6,hm6,hn6⟩
 refine Jd (Ku U) U U U ?_
 refine My (fun v T' => ∃ lo,w.heap.size ≤ lo ∧ T' = [rowl strCells lo 9 1 v (cutS s)]) (Kb (vs := [.string _,_]) Tryz.func108 U (by kernel_rfl) U) (fun w hM => (split_any w s hs).mono fun _ _ ⟨v,T1,h1,h2,h3⟩ => ⟨v,T1,h1,⟨_,hM.low.size,h2⟩,h3⟩) U U U ?_
 rintro v8 _ ⟨lo8,hlo8,rfl⟩
 refine Ky (fun w hM => Mz (hM.ok _ (List.mem_of_getElem? (i := 1) U))) ?_
 rintro ⟨A8,c8,rfl,hc8,hm8,hn8⟩
 refine Km (Kb (vs := [.slice A6 _ c6,.slice A8 _ c8]) Tryz.func107 U (by kernel_rfl) U) (fun w hM => walk_any w (cutS p) (cutS s) _ _ _ _ (fun _ h => KX h hp) (fun _ h => KX h hs) (by omega) (by omega) ((Qw (f := strCells) (fun _ => U) (hM.ok _ (List.mem_of_getElem? (i := 0) U))).mono (Nat.zero_le _)) ((Qw (f := strCells) (fun _ => U) (hM.ok _ (List.mem_of_getElem? (i := 1) U))).mono (Nat.zero_le _))) U U U ?_
 refine Jd (Ji U) U U U (Ja (hN2 _ _ (gT [rowl _ _ _ _ _ _,rowl _ _ _ _ _ _] U (Jb [(4,.bool _)] ⟨U,O⟩ fun σ => ?_))))
 refine Ke fun w1 hM => ?_
 refine ⟨_,res1 rfl (rt (v := .bool _) rfl),?_⟩
 exact ⟨rfl,hM.low⟩
end Go.Proofs.YtbkameioedmlkaaGreatDoor
namespace Go.Proofs.YtbkameioedmlkaaGreatDoor
open Go.RowKit Go.Cf
set_option maxRecDepth 10000
theorem eg33 (op : BinOp) (x y : Operand) (xs ys : Array Value) (w : World) : (eqGuard op 33 x y (.agg xs) (.agg ys)).run Tryz.prog w = .ok () w := run_eqGuard_agg w op 33 x y xs ys (by kernel_rfl)
theorem ne33 (a0 b0 : Int) (a1 b1 : Int) (w : World) : (binOp .neq 33 (.agg #[.int .i64 a0, .int .i64 a1]) (.agg #[.int .i64 b0, .int .i64 b1])).run Tryz.prog w = .ok (.bool (!(decide (a0 = b0) && decide (a1 = b1)))) w := by
 simp [run_neq_struct,run_equalIn_agg,Tryz.underlying33,Tryz.stoodInHeld33,Program.fieldsOf,go_sem]
 (repeat' split) <;> simp_all
theorem Uo (a : Addr) (w : World) : (Instr.fieldAt 33 (.pointer (some a)) 0).run Tryz.prog w = .ok (.pointer (some (a.add 0))) w := by kernel_rfl
set_option maxHeartbeats 1000000 in
theorem slIndexByte_any (w : World) (s : ByteArray) (c : Int) : Calls Tryz.prog 116 #[.string s, .int .u8 c] w fun e w' => e = .returned (.int .i64 (firstIdx s c.toNat.toUInt8)) ∧ Below w.heap.size w w' := by
 refine Kz Tryz.func116 U Tryz.ntmps116 (leb U) ?_
 refine Jb [(0,.string _),(1,.int _ _)] ⟨U,U,O⟩ fun σ => Jg fun N1 hN1 => Jk (Jd (Jh U) U U U (Ja (hN1 _ _ (Jb [(0,.string _),(1,.int _ _)] ⟨U,U,O⟩ fun σ => Jg fun N2 hN2 => Jk (Jd (Ku U) U U U (Jd (Jf U) U U U (Jd (y_indexByte Tryz.func142 (by kernel_rfl) (by kernel_rfl) (by kernel_rfl) (by kernel_rfl) U U) U U U (Jd (Jh U) U U U ?_))))))))
 refine Ja (hN2 _ _ (Jb [(4,.int _ _)] ⟨U,O⟩ fun σ => ?_))
 refine Ke fun w1 hM => ?_
 refine ⟨_,res1 rfl (rt (v := .int _ _) rfl),?_⟩
 exact ⟨rfl,hM.low⟩
set_option maxHeartbeats 1000000 in
theorem Yf (w : World) (s : ByteArray) (c : Int) : Calls Tryz.prog 92 #[.string s, .int .u8 c] w fun e w' => e = .returned (.int .i64 (firstIdx s c.toNat.toUInt8)) ∧ Below w.heap.size w w' := by
 refine Kz Tryz.func92 U Tryz.ntmps92 (leb U) ?_
 refine Jb [(0,.string _),(1,.int _ _)] ⟨U,U,O⟩ fun σ => Jg fun N1 hN1 => Jk (Jd (Jh U) U U U (Ja (hN1 _ _ (Jb [(0,.string _),(1,.int _ _)] ⟨U,U,O⟩ fun σ => Jg fun N2 hN2 => Jk (Jd (Ku U) U U U (Jd (Jf U) U U U ?_))))))
 refine Km (Kb (vs := [.string _,.int _ _]) Tryz.func116 U (by kernel_rfl) U) (fun w hM => slIndexByte_any w _ _) U U U ?_
 refine Jd (Jh U) U U U (Ja (hN2 _ _ (Jb [(4,.int _ _)] ⟨U,O⟩ fun σ => ?_)))
 refine Ke fun w1 hM => ?_
 refine ⟨_,res1 rfl (rt (v := .int _ _) rfl),?_⟩
 exact ⟨rfl,hM.low⟩
set_option maxHeartbeats 1000000 in
theorem Uh (w : World) (A : Option Addr) (c : Nat) (l : List ByteArray) (hl : Rdl w 0 1 strCells A l) (hm : l.length ≤ maxLen) : Calls Tryz.prog 58 #[.slice A l.length c] w fun e w' => e = .returned (fv (linesF l)) ∧ Below w.heap.size w w' := by
 unfold maxLen at hm
 refine Kz Tryz.func58 U Tryz.ntmps58 (leb U) ?_
 refine Jb [(0,.slice _ _ _)] ⟨U,O⟩ fun σ => Jg fun N1 hN1 => Jk ?_
 refine Ka (cs := #[.int .i64 0,.int .i64 0]) Tryz.zeroValue33 U U (fun b2 hb2 => ?_)
 refine Ja (hN1 _ _ (gT [box b2 _] U (Jb [(0,.slice _ _ _),(2,.pointer _)] ⟨U,U,O⟩ fun σ => Jg fun N2 hN2 => Jg fun N3 hN3 => Jk (Jd (Kl U) U U U (Jd (Ks Tryz.underlying22 U) U U U (Jd (Mh U U) U U U (Ja (hN3 _ _ ?_))))))))
 refine Jb [(0,.slice _ _ _),(2,.pointer _),(7,.bool _)] ⟨U,U,U,O⟩ fun σ => ?_
 refine Jt (b := _) U (fun hc7 => ?_) (fun hc7 => ?_)
 replace hc7 := odt hc7
 have hF : linesF l = ⟨2,-1⟩ := by rw [linesF,if_pos (by omega)]
 refine Jg fun N4 hN4 => Jk (Jd (Kd (vs := [(0,_),(1,_)]) (cells := #[_,_]) U (Ma _ _)) U U U (Jr 0 (v := .agg #[_,_]) (cs' := #[_,_]) U U Tryz.sizeOf33 U U U U (leb U) U U (Ja (hN4 _ _ (gT [box b2 _] U (Jb [(2,.pointer _)] ⟨U,O⟩ fun σ => ?_))))))
 refine Ke fun w1 hM => ?_
 refine ⟨_,res1 rfl (rc 0 (cs := [_,_]) hM rfl rfl Tryz.isAgg33 Tryz.sizeOf33 rfl),?_⟩
 exact ⟨by rw [hF],hM.low⟩
 replace hc7 := odf hc7
 have hF : linesF l = scan (fun _ s => lineCode s) l := by rw [linesF,if_neg (by omega)]
 refine Jw (hN2 _ _ (Jb [(0,.slice _ _ _),(2,.pointer _)] ⟨U,U,O⟩ fun σ => Jg fun N5 hN5 => Jg fun N6 hN6 => Jk (Jd (Kl U) U U U (Jd (Ks Tryz.underlying22 U) U U U (Jd (Jf U) U U U (Ja (hN6 _ _ (Jb [(2,.pointer _),(9,.slice _ _ _),(10,.int _ _),(11,.int _ _)] ⟨U,U,U,U,O⟩ fun σ => ?_))))))))
 refine Kn ?_
 refine Mm [(11,.int _ _)] [(2,.pointer _),(9,.slice _ _ _),(10,.int _ _)] ⟨U,O⟩ ⟨U,U,U,O⟩ fun σ => ?_
 refine Ml (G := Nat) (fun k => k ≤ l.length ∧ ∀ j (h : j < l.length),j < k → lineCode l[j] = 0) (fun k => l.length - k) (fun k => [(11,.int .i64 (k : Int))]) (fun k => []) (0) ?h0 ⟨U,O⟩ ⟨U,U,U,O⟩ U ?round
 case h0 => exact ⟨Nat.zero_le _,fun _ _ h => absurd h (by omega)⟩
 case round =>
  intro k hφ σ
  obtain ⟨hk,hz⟩ := hφ
  refine Jg fun N7 hN7 => Jk (Jd (Me U U) U U U (Ja (hN7 _ _ (Jb [(2,.pointer _),(9,.slice _ _ _),(10,.int _ _),(11,.int _ _),(12,.bool _)] ⟨U,U,U,U,U,O⟩ fun σ => Jg fun N8 hN8 => ?_))))
  refine Jt (b := _) U (fun hc12 => ?_) (fun hc12 => ?_)
  replace hc12 := odt hc12
  have hk1 : k < l.length := by omega
  obtain ⟨ad,rfl,-,hca⟩ := hl.at_ hk1
  refine Jw (hN8 _ _ (Jb [(2,.pointer _),(9,.slice _ _ _),(10,.int _ _),(11,.int _ _)] ⟨U,U,U,U,O⟩ fun σ => Jg fun N9 hN9 => Kn (Jg fun N10 hN10 => Jk (Jd (Jf U) U U U (Jd (Jz Tryz.underlying22 Tryz.sizeOf9 U U U (by omega) (by omega)) U U U (Jd (Jq Tryz.isAgg9 U (Ms (hca 0 _ U))) U U U (Jd (Jh U) U U U (Jd (Ul U) U U U ?_))))))))
  refine Ja (hN10 _ _ (Jb [(2,.pointer _),(3,.int _ _),(4,.string _),(9,.slice _ _ _),(10,.int _ _),(11,.int _ _)] ⟨U,U,U,U,U,U,O⟩ fun σ => Jg fun N11 hN11 => Jg fun N12 hN12 => Jk (Jd (Ku U) U U U (Jd (Qt Tryz.underlying9 U) U U U (Jd (Mh U U) U U U (Ja (hN12 _ _ (Jb [(2,.pointer _),(3,.int _ _),(4,.string _),(9,.slice _ _ _),(10,.int _ _),(11,.int _ _),(18,.bool _)] ⟨U,U,U,U,U,U,U,O⟩ fun σ => ?_))))))))
  refine Jt (b := _) U (fun hc18 => ?_) (fun hc18 => ?_)
  replace hc18 := odt hc18
  have hcd : lineCode l[k] = 2 := by rw [lineCode,if_pos (by omega)]
  refine Jg fun N13 hN13 => Jk (Jd (Jf U) U U U (Jd (Kd (vs := [(0,_),(1,.int _ _)]) (cells := #[_,_]) U (Ma _ _)) U U U (Jr 0 (v := .agg #[_,_]) (cs' := #[_,_]) U U Tryz.sizeOf33 U U U U (leb U) U U (Ja (hN13 _ _ (gT [box b2 _] U (Jb [(2,.pointer _)] ⟨U,O⟩ fun σ => ?_)))))))
  refine Ke fun w1 hM => ?_
  refine ⟨_,res1 rfl (rc 0 (cs := [_,_]) hM rfl rfl Tryz.isAgg33 Tryz.sizeOf33 rfl),?_⟩
  exact ⟨by rw [hF,Uf hk1 hz (by rw [hcd]; decide),hcd],hM.low⟩
  replace hc18 := odf hc18
  refine Jw (hN11 _ _ (Jb [(2,.pointer _),(3,.int _ _),(4,.string _),(9,.slice _ _ _),(10,.int _ _),(11,.int _ _)] ⟨U,U,U,U,U,U,O⟩ fun σ => Jg fun N14 hN14 => Jk (Jd (Ku U) U U U ?_)))
  refine Km (Kb (vs := [.string _,_]) Tryz.func92 U (by kernel_rfl) U) (fun w hM => Yf w _ _) U U U ?_
  refine Jd (Wj U U) U U U (Ja (hN14 _ _ (Jb [(2,.pointer _),(3,.int _ _),(9,.slice _ _ _),(10,.int _ _),(11,.int _ _),(23,.bool _)] ⟨U,U,U,U,U,U,O⟩ fun σ => ?_)))
  refine Jt (b := _) U (fun hc23 => ?_) (fun hc23 => ?_)
  replace hc23 := odt hc23
  have hcd : lineCode l[k] = 5 := by rw [lineCode,if_neg (by omega),if_pos (show 0 ≤ firstIdx l[k] 10 from hc23)]
  refine Jg fun N15 hN15 => Jk (Jd (Jf U) U U U (Jd (Kd (vs := [(0,_),(1,.int _ _)]) (cells := #[_,_]) U (Ma _ _)) U U U (Jr 0 (v := .agg #[_,_]) (cs' := #[_,_]) U U Tryz.sizeOf33 U U U U (leb U) U U (Ja (hN15 _ _ (gT [box b2 _] U (Jb [(2,.pointer _)] ⟨U,O⟩ fun σ => ?_)))))))
  refine Ke fun w1 hM => ?_
  refine ⟨_,res1 rfl (rc 0 (cs := [_,_]) hM rfl rfl Tryz.isAgg33 Tryz.sizeOf33 rfl),?_⟩
  exact ⟨by rw [hF,Uf hk1 hz (by rw [hcd]; decide),hcd],hM.low⟩
  replace hc23 := odf hc23
  refine Jw (hN9 _ _ (Jb [(2,.pointer _),(9,.slice _ _ _),(10,.int _ _),(11,.int _ _)] ⟨U,U,U,U,O⟩ fun σ => Jk (Jd (Kr U U ⟨by omega,by omega⟩) U U U (Jd (Jf U) U U U (Ja ?_)))))
  refine Kt (k + 1) (by omega) (⟨by omega,fun j h hj => by rcases Nat.lt_succ_iff_lt_or_eq.1 hj with h1 | rfl; exact hz j h h1; unfold lineCode; rw [if_neg (by omega),if_neg (show ¬ 0 ≤ firstIdx l[j] 10 from hc23)]⟩) ⟨U,O⟩ ⟨U,U,U,O⟩ ⟨_,U⟩
  replace hc12 := odf hc12
  have hF2 : linesF l = ⟨0,0⟩ := by rw [hF]; exact Qy fun j hj => hz j hj (by omega)
  refine Mx ?_
  refine hN5 _ _ (Jb [(2,.pointer _)] ⟨U,O⟩ fun σ => Jg fun N16 hN16 => Jk (Jd (Kd (vs := []) (cells := #[.int .i64 0,.int .i64 0]) U Qh) U U U (Jr 0 (v := .agg #[_,_]) (cs' := #[_,_]) U U Tryz.sizeOf33 U U U U (leb U) U U (Ja (hN16 _ _ (gT [box b2 _] U (Jb [(2,.pointer _)] ⟨U,O⟩ fun σ => ?_)))))))
  refine Ke fun w1 hM => ?_
  refine ⟨_,res1 rfl (rc 0 (cs := [_,_]) hM rfl rfl Tryz.isAgg33 Tryz.sizeOf33 rfl),?_⟩
  exact ⟨by rw [hF2],hM.low⟩
set_option maxHeartbeats 1000000 in
theorem Wf (w : World) (A : Option Addr) (c : Nat) (l : List ByteArray) (hl : Rdl w 0 1 strCells A l) (hm : l.length ≤ maxLen) (i : Int) : Calls Tryz.prog 28 #[.slice A l.length c, .int .i64 i] w fun e w' => e = .returned (fv (secondF (linesF l) i)) ∧ Below w.heap.size w w' := by
 refine Kz Tryz.func28 U Tryz.ntmps28 (leb U) ?_
 refine Jb [(0,.slice _ _ _),(1,.int _ _)] ⟨U,U,O⟩ fun σ => Jg fun N1 hN1 => Jk ?_
 refine Ka (cs := #[.int .i64 0,.int .i64 0]) Tryz.zeroValue33 U U (fun b4 hb4 => ?_)
 refine Ja (hN1 _ _ (gT [box b4 _] U (Jb [(0,.slice _ _ _),(1,.int _ _),(4,.pointer _)] ⟨U,U,U,O⟩ fun σ => Jg fun N2 hN2 => Jg fun N3 hN3 => Jk (Jd (Kl U) U U U ?_))))
 refine Km (Kb (vs := [.slice _ _ _]) Tryz.func58 U (by kernel_rfl) U) (fun w hM => Uh w _ _ _ (hl.base hM) hm) U U U ?_
 refine Ka (cs := #[.int .i64 0,.int .i64 0]) Tryz.zeroValue33 U U (fun b5 hb5 => ?_)
 refine Jr 1 (v := .agg #[_,_]) (cs' := #[_,_]) U U Tryz.sizeOf33 U U U U (leb U) U U (Ja (hN3 _ _ (gT [box b4 _,box b5 _] U (Jb [(1,.int _ _),(4,.pointer _),(5,.pointer _)] ⟨U,U,U,O⟩ fun σ => Jg fun N4 hN4 => Jk (Jd (Kk (cs := [_,_]) Tryz.isAgg33 Tryz.sizeOf33 U U (Kf 1 U)) U U U (Jd (Kd (vs := []) (cells := #[.int .i64 0,.int .i64 0]) U Qh) U U U (Jd (Uk (vx := .agg #[_,_]) (vy := .agg #[_,_]) U U (fun w => eg33 _ _ _ _ _ w) (fun w => ne33 _ _ _ _ w)) U U U (Ja ?_))))))))
 refine hN4 _ _ (Jb [(1,.int _ _),(4,.pointer _),(5,.pointer _),(10,.bool _)] ⟨U,U,U,U,O⟩ fun σ => ?_)
 refine Jt (b := _) U (fun hc10 => ?_) (fun hc10 => ?_)
 replace hc10 := Qe.1 hc10
 refine Jg fun N5 hN5 => Jk (Jd (Jc Uo U) U U U (Jd (Jq Tryz.isAgg3 U (Jm 1 U U)) U U U (Jd (Jf U) U U U (Jd (Kd (vs := [(0,.int _ _),(1,.int _ _)]) (cells := #[_,_]) U (Ma _ _)) U U U (Jr 0 (v := .agg #[_,_]) (cs' := #[_,_]) U U Tryz.sizeOf33 U U U U (leb U) U U (Ja (hN5 _ _ (gT [box b4 _,box b5 _] U ?_))))))))
 refine Jb [(4,.pointer _)] ⟨U,O⟩ fun σ => ?_
 refine Ke fun w1 hM => ?_
 refine ⟨_,res1 rfl (rc 0 (cs := [_,_]) hM rfl rfl Tryz.isAgg33 Tryz.sizeOf33 rfl),?_⟩
 exact ⟨by rw [secondF,if_pos hc10],hM.low⟩
 replace hc10 := Qf.1 hc10
 refine Jw (hN2 _ _ (Jb [(4,.pointer _)] ⟨U,O⟩ fun σ => Jg fun N6 hN6 => Jk (Jd (Kd (vs := []) (cells := #[.int .i64 0,.int .i64 0]) U Qh) U U U (Jr 0 (v := .agg #[_,_]) (cs' := #[_,_]) U U Tryz.sizeOf33 U U U U (leb U) U U (Ja (hN6 _ _ (gT [box b4 _,box b5 _] U (Jb [(4,.pointer _)] ⟨U,O⟩ fun σ => ?_))))))))
 refine Ke fun w1 hM => ?_
 refine ⟨_,res1 rfl (rc 0 (cs := [_,_]) hM rfl rfl Tryz.isAgg33 Tryz.sizeOf33 rfl),?_⟩
 exact ⟨by rw [secondF,if_neg (by simp [hc10])],hM.low⟩
end Go.Proofs.YtbkameioedmlkaaGreatDoor
namespace Go.Proofs.YtbkameioedmlkaaGreatDoor
open Go.RowKit Go.Cf
set_option maxRecDepth 10000
theorem fa89_0 (a : Addr) (w : World) : (Instr.fieldAt 89 (.pointer (some a)) 0).run Tryz.prog w = .ok (.pointer (some (a.add 0))) w := by kernel_rfl
theorem fa89_1 (a : Addr) (w : World) : (Instr.fieldAt 89 (.pointer (some a)) 1).run Tryz.prog w = .ok (.pointer (some (a.add 1))) w := by kernel_rfl
theorem el3 : Elem Tryz.prog 3 1 8 := Xz (z := .int .i64 0) (by kernel_rfl) rfl (by decide)
set_option maxHeartbeats 2000000 in
theorem check_any (w : World) (pat : ByteArray) (us : List Int) (A : Option Addr) (c : Nat) (hR : RuleR w 0 ⟨⟨pat, us⟩, A, c⟩) : Calls Tryz.prog 70 #[.agg #[.string pat, .slice A us.length c]] w fun e w' => e = .returned (.int .i64 (ruleCode ⟨pat, us⟩)) ∧ Below w.heap.size w w' := by
 have hmx : c ≤ maxLen := hR.sb.max
 have hln : us.length ≤ c := hR.sb.len
 have hrd : Rdl w 0 1 intCells A us := hR.rd
 unfold maxLen at hmx
 refine Kz Tryz.func70 U Tryz.ntmps70 (leb U) ?_
 refine Jb [(0,.agg #[_,_])] ⟨U,O⟩ fun σ => Jg fun N1 hN1 => Jk ?_
 refine Mt (v := .agg #[_,_]) (cs := #[_,_]) U U U (fun b1 hb1 => ?_)
 refine Jd (Jh U) U U U (Ja (hN1 _ _ (gT [box b1 _] U (Jb [(1,.pointer _)] ⟨U,O⟩ fun σ => Jg fun N2 hN2 => Jg fun N3 hN3 => Jk (Jd (Jc fa89_0 U) U U U (Jd (Jq Tryz.isAgg9 U (Jm 0 U U)) U U U ?_))))))
 refine Km (Kb (vs := [.string _]) Tryz.func102 U (by kernel_rfl) U) (fun w hM => validate_any w _) U U U ?_
 refine Ka (cs := #[.int .i64 0,.int .i64 0]) Tryz.zeroValue33 U U (fun b3 hb3 => ?_)
 refine Jr 1 (v := .agg #[_,_]) (cs' := #[_,_]) U U Tryz.sizeOf33 U U U U (leb U) U U (Ja (hN3 _ _ (gT [box b1 _,box b3 _] U (Jb [(1,.pointer _),(3,.pointer _)] ⟨U,U,O⟩ fun σ => Jg fun N4 hN4 => Jk (Jd (Kk (cs := [_,_]) Tryz.isAgg33 Tryz.sizeOf33 U U (Kf 1 U)) U U U (Jd (Kd (vs := []) (cells := #[.int .i64 0,.int .i64 0]) U Qh) U U U (Jd (Uk (vx := .agg #[_,_]) (vy := .agg #[_,_]) U U (fun w => eg33 _ _ _ _ _ w) (fun w => ne33 _ _ _ _ w)) U U U (Ja ?_))))))))
 refine hN4 _ _ (Jb [(1,.pointer _),(3,.pointer _),(11,.bool _)] ⟨U,U,U,O⟩ fun σ => ?_)
 refine Jt (b := _) U (fun hc11 => ?_) (fun hc11 => ?_)
 replace hc11 := Qe.1 hc11
 have hC : ruleCode ⟨pat,us⟩ = (patFault pat).code := by rw [ruleCode,if_pos (fun h => hc11 (by rw [patFault,if_pos h]))]; exact (MZ pat).symm
 refine Jg fun N5 hN5 => Jk (Jd (Jc Uo U) U U U (Jd (Jq Tryz.isAgg3 U (Jm 1 U U)) U U U (Jd (Jh U) U U U (Ja (hN5 _ _ (Jb [(2,.int _ _)] ⟨U,O⟩ fun σ => ?_))))))
 refine Ke fun w1 hM => ?_
 refine ⟨_,res1 rfl (rt (v := .int _ _) rfl),?_⟩
 exact ⟨by rw [hC],hM.low⟩
 replace hc11 := Qf.1 hc11
 have hp0 : patCode pat = 0 := by have h0 := MZ pat; rw [hc11] at h0; have h1 : (0 : Int) = (patCode pat : Int) := h0; omega
 refine Jw (hN2 _ _ (Jb [(1,.pointer _)] ⟨U,O⟩ fun σ => Jg fun N6 hN6 => Jg fun N7 hN7 => Jk (Jd (Jc fa89_1 U) U U U (Jd (Jq Tryz.isAgg74 U (Jm 0 U U)) U U U (Jd (Ks Tryz.underlying74 U) U U U (Jd (Mh U U) U U U (Ja (hN7 _ _ ?_))))))))
 refine Jb [(1,.pointer _),(17,.bool _)] ⟨U,U,O⟩ fun σ => ?_
 refine Jt (b := _) U (fun hc17 => ?_) (fun hc17 => ?_)
 replace hc17 := odt hc17
 have hC : ruleCode ⟨pat,us⟩ = 2 := by rw [ruleCode,if_neg (fun h => h hp0),if_pos (show 4 < us.length by omega)]
 refine Jg fun N8 hN8 => Jk (Jd (Jh U) U U U (Ja (hN8 _ _ (Jb [(2,.int _ _)] ⟨U,O⟩ fun σ => ?_))))
 refine Ke fun w1 hM => ?_
 refine ⟨_,res1 rfl (rt (v := .int _ _) rfl),?_⟩
 exact ⟨by rw [hC],hM.low⟩
 replace hc17 := odf hc17
 have hC : ruleCode ⟨pat,us⟩ = uCode (-1) us := by rw [ruleCode,if_neg (fun h => h hp0),if_neg (show ¬ 4 < us.length by omega)]
 refine Jw (hN6 _ _ (Jb [(1,.pointer _)] ⟨U,O⟩ fun σ => Jg fun N9 hN9 => Jg fun N10 hN10 => Jk (Jd (Jc fa89_1 U) U U U (Jd (Jq Tryz.isAgg74 U (Jm 0 U U)) U U U (Jd (Ks Tryz.underlying74 U) U U U (Jd (Jf U) U U U (Ja (hN10 _ _ ?_))))))))
 refine Jb [(1,.pointer _),(19,.slice _ _ _),(20,.int _ _),(21,.int _ _)] ⟨U,U,U,U,O⟩ fun σ => Kn ?_
 refine Mm [(21,.int _ _)] [(1,.pointer _),(19,.slice _ _ _),(20,.int _ _)] ⟨U,O⟩ ⟨U,U,U,O⟩ fun σ => ?_
 refine Ml (G := Nat) (fun k => k ≤ us.length ∧ uCode (prevU us k) (us.drop k) = uCode (-1) us) (fun k => us.length - k) (fun k => [(21,.int .i64 (k : Int))]) (fun k => []) (0) ?h0 ⟨U,O⟩ ⟨U,U,U,O⟩ U ?round
 case h0 => exact ⟨Nat.zero_le _,rfl⟩
 case round =>
  intro k hφ σ
  obtain ⟨hk,hu⟩ := hφ
  refine Jg fun N11 hN11 => Jk (Jd (Me U U) U U U (Ja (hN11 _ _ (Jb [(1,.pointer _),(19,.slice _ _ _),(20,.int _ _),(21,.int _ _),(22,.bool _)] ⟨U,U,U,U,U,O⟩ fun σ => Jg fun N12 hN12 => ?_))))
  refine Jt (b := _) U (fun hc22 => ?_) (fun hc22 => ?_)
  replace hc22 := odt hc22
  have hk1 : k < us.length := by omega
  obtain ⟨ad,rfl,-,hca⟩ := hrd.at_ hk1
  refine Jw (hN12 _ _ (Jb [(1,.pointer _),(19,.slice _ _ _),(20,.int _ _),(21,.int _ _)] ⟨U,U,U,U,O⟩ fun σ => Jg fun N13 hN13 => Kn (Jg fun N14 hN14 => Jk (Jd (Jf U) U U U (Jd (Jz (m := k) Tryz.underlying74 Tryz.sizeOf3 U U (by omega) (by omega) (by omega)) U U U (Jd (Jq Tryz.isAgg3 U (Ms (hca 0 _ U))) U U U (Jd (Jh U) U U U (Jd (Jh U) U U U ?_))))))))
  refine Ja (hN14 _ _ (Jb [(1,.pointer _),(4,.int _ _),(5,.int _ _),(19,.slice _ _ _),(20,.int _ _),(21,.int _ _)] ⟨U,U,U,U,U,U,O⟩ fun σ => Jg fun N15 hN15 => Jg fun N16 hN16 => Jk (Jd (Jf U) U U U (Jd (Me U U) U U U (Jd (Jn U) U U U ?_)))))
  refine Kh (want := false) U U U U U U (fun hg28 => ?_) (fun hg28 => ?_)
  have hg28d := odf hg28
  refine Jd (Je (Jf U)) U U U (Js U U U U hg28 (Jd (Je (Mh U U)) U U U (Jd (Jp U hg28 U) U U U (Ja (hN16 _ _ (Jb [(1,.pointer _),(4,.int _ _),(5,.int _ _),(19,.slice _ _ _),(20,.int _ _),(21,.int _ _),(31,.bool _)] ⟨U,U,U,U,U,U,U,O⟩ fun σ => ?_))))))
  refine Jt (b := _) U (fun hc31 => ?_) (fun hc31 => ?_)
  replace hc31 := odt hc31
  refine Jg fun N17 hN17 => Jk (Jd (Jh U) U U U (Ja (hN17 _ _ (Jb [(2,.int _ _)] ⟨U,O⟩ fun σ => ?_))))
  refine Ke fun w1 hM => ?_
  refine ⟨_,res1 rfl (rt (v := .int _ _) rfl),?_⟩
  exact ⟨by rw [hC,← hu,uCode_bad hk1 (by omega)],hM.low⟩
  replace hc31 := odf hc31
  refine Jw (hN15 _ _ (Jb [(1,.pointer _),(4,.int _ _),(5,.int _ _),(19,.slice _ _ _),(20,.int _ _),(21,.int _ _)] ⟨U,U,U,U,U,U,O⟩ fun σ => Jg fun N18 hN18 => Jk (Jd (Jf U) U U U (Jd (Mh U U) U U U (Jd (Jn U) U U U ?_)))))
  refine Kh (want := true) U U U U U U (fun hg34 => ?_) (fun hg34 => ?_)
  have hg34d := odt hg34
  have hk0 : 0 < k := by omega
  obtain ⟨ad2,he2,-,hcp⟩ := hrd.at_ (show k - 1 < us.length by omega)
  cases he2
  refine Jd (Je (Jf U)) U U U (Js U U U U hg34 (Jd (Je (Jc fa89_1 U)) U U U (Js U U U U hg34 (Jd (Je (Jq Tryz.isAgg74 U (Jm 0 U U))) U U U (Js U U U U hg34 (Jd (Je (Jf U)) U U U (Js U U U U hg34 (Jd (Je (Zi U U ⟨by omega,by omega⟩)) U U U ?_))))))))
  refine Js U U U U hg34 (Jd (Je (Jz (m := k - 1) Tryz.underlying74 Tryz.sizeOf3 U U (by omega) (by omega) (by omega))) U U U (Js U U U U hg34 (Jd (Je (Jq Tryz.isAgg3 U (Ms (hcp 0 _ U)))) U U U (Js U U U U hg34 (Jd (Je (Zj U U)) U U U (Jd (Jo U hg34 U) U U U (Ja (hN18 _ _ ?_))))))))
  refine Jb [(1,.pointer _),(19,.slice _ _ _),(20,.int _ _),(21,.int _ _),(43,.bool _)] ⟨U,U,U,U,U,O⟩ fun σ => ?_
  refine Jt (b := _) U (fun hc43 => ?_) (fun hc43 => ?_)
  replace hc43 := odt hc43
  refine Jg fun N19 hN19 => Jk (Jd (Jh U) U U U (Ja (hN19 _ _ (Jb [(2,.int _ _)] ⟨U,O⟩ fun σ => ?_))))
  refine Ke fun w1 hM => ?_
  refine ⟨_,res1 rfl (rt (v := .int _ _) rfl),?_⟩
  exact ⟨by rw [hC,← hu,uCode_old hk1 (by omega) (by rw [prevU_pos hk0 (by omega)]; exact hc43)],hM.low⟩
  replace hc43 := odf hc43
  refine Jw (hN13 _ _ (Jb [(1,.pointer _),(19,.slice _ _ _),(20,.int _ _),(21,.int _ _)] ⟨U,U,U,U,O⟩ fun σ => Jk (Jd (Kr U U ⟨by omega,by omega⟩) U U U (Jd (Jf U) U U U (Ja ?_)))))
  refine Kt (k + 1) (by omega) (⟨by omega,(uCode_next hk1 (by omega) (by rw [prevU_pos hk0 (by omega)]; exact hc43)).symm.trans hu⟩) ⟨U,O⟩ ⟨U,U,U,O⟩ ⟨_,U⟩
  have hg34d := odf hg34
  refine Jj U U U U hg34 U U (Jj U U U U hg34 U U (Jj U U U U hg34 U U (Jj U U U U hg34 U U (Jj U U U U hg34 U U (Jj U U U U hg34 U U (Jj U U U U hg34 U U (Jd (Jp U hg34 U) U U U (Ja ?_))))))))
  refine hN18 _ _ (Jb [(1,.pointer _),(19,.slice _ _ _),(20,.int _ _),(21,.int _ _),(43,.bool _)] ⟨U,U,U,U,U,O⟩ fun σ => ?_)
  refine Jt (b := _) U (fun hc43 => ?_) (fun hc43 => ?_)
  cases hc43
  refine Jw (hN13 _ _ (Jb [(1,.pointer _),(19,.slice _ _ _),(20,.int _ _),(21,.int _ _)] ⟨U,U,U,U,O⟩ fun σ => Jk (Jd (Kr U U ⟨by omega,by omega⟩) U U U (Jd (Jf U) U U U (Ja ?_)))))
  refine Kt (k + 1) (by omega) (⟨by omega,(uCode_next hk1 (by omega) (by rw [prevU,if_pos (by omega)]; omega)).symm.trans hu⟩) ⟨U,O⟩ ⟨U,U,U,O⟩ ⟨_,U⟩
  have hg28d := odt hg28
  refine Jj U U U U hg28 U U (Jd (Jo U hg28 U) U U U (Ja (hN16 _ _ (Jb [(1,.pointer _),(4,.int _ _),(5,.int _ _),(19,.slice _ _ _),(20,.int _ _),(21,.int _ _),(31,.bool _)] ⟨U,U,U,U,U,U,U,O⟩ fun σ => ?_))))
  refine Jt (b := _) U (fun hc31 => ?_) (fun hc31 => ?_)
  refine Jg fun N20 hN20 => Jk (Jd (Jh U) U U U (Ja (hN20 _ _ (Jb [(2,.int _ _)] ⟨U,O⟩ fun σ => ?_))))
  refine Ke fun w1 hM => ?_
  refine ⟨_,res1 rfl (rt (v := .int _ _) rfl),?_⟩
  exact ⟨by rw [hC,← hu,uCode_bad hk1 (by omega)],hM.low⟩
  cases hc31
  replace hc22 := odf hc22
  have hE : uCode (-1) us = 0 := by rw [← hu]; exact uCode_end (by omega)
  refine Mx ?_
  refine hN9 _ _ (Jb [] trivial fun σ => Jg fun N21 hN21 => Jk (Jd (Jh U) U U U (Ja (hN21 _ _ (Jb [(2,.int _ _)] ⟨U,O⟩ fun σ => ?_)))))
  refine Ke fun w1 hM => ?_
  refine ⟨_,res1 rfl (rt (v := .int _ _) rfl),?_⟩
  exact ⟨by rw [hC,hE],hM.low⟩
set_option maxHeartbeats 2000000 in
theorem ownValidate_any (w : World) (A : Option Addr) (c : Nat) (rs : List RuleC) (hR : RulesR w 0 A c rs) : Calls Tryz.prog 38 #[.slice A rs.length c] w fun e w' => e = .returned (fv (rulesF (rls rs))) ∧ Below w.heap.size w w' := by
 have hln := hR.sb.len
 have hmx := hR.sb.max
 unfold maxLen at hmx
 refine Kz Tryz.func38 U Tryz.ntmps38 (leb U) ?_
 refine Jb [(0,.slice _ _ _)] ⟨U,O⟩ fun σ => Jg fun N1 hN1 => Jk ?_
 refine Ka (cs := #[.int .i64 0,.int .i64 0]) Tryz.zeroValue33 U U (fun b2 hb2 => ?_)
 refine Ja (hN1 _ _ (gT [box b2 _] U (Jb [(0,.slice _ _ _),(2,.pointer _)] ⟨U,U,O⟩ fun σ => Jg fun N2 hN2 => Jg fun N3 hN3 => Jk (Jd (Kl U) U U U (Jd (Ks Tryz.underlying57 U) U U U (Jd (Mh U U) U U U (Ja (hN3 _ _ ?_))))))))
 refine Jb [(0,.slice _ _ _),(2,.pointer _),(8,.bool _)] ⟨U,U,U,O⟩ fun σ => ?_
 refine Jt (b := _) U (fun hc8 => ?_) (fun hc8 => ?_)
 replace hc8 := odt hc8
 have hF : rulesF (rls rs) = ⟨2,-1⟩ := by rw [rulesF,if_pos (by simp; omega)]
 refine Jg fun N4 hN4 => Jk (Jd (Kd (vs := [(0,_),(1,_)]) (cells := #[_,_]) U (Ma _ _)) U U U (Jr 0 (v := .agg #[_,_]) (cs' := #[_,_]) U U Tryz.sizeOf33 U U U U (leb U) U U (Ja (hN4 _ _ (gT [box b2 _] U (Jb [(2,.pointer _)] ⟨U,O⟩ fun σ => ?_))))))
 refine Ke fun w1 hM => ?_
 refine ⟨_,res1 rfl (rc 0 (cs := [_,_]) hM rfl rfl Tryz.isAgg33 Tryz.sizeOf33 rfl),?_⟩
 exact ⟨by rw [hF],hM.low⟩
 replace hc8 := odf hc8
 have hF : rulesF (rls rs) = scan (fun _ r => ruleCode r) (rls rs) := by rw [rulesF,if_neg (by simp; omega)]
 refine Jw (hN2 _ _ (Jb [(0,.slice _ _ _),(2,.pointer _)] ⟨U,U,O⟩ fun σ => Jg fun N5 hN5 => Jg fun N6 hN6 => Jk (Jd (Kl U) U U U (Jd (Ks Tryz.underlying57 U) U U U (Jd (Jf U) U U U (Ja (hN6 _ _ (Jb [(2,.pointer _),(10,.slice _ _ _),(11,.int _ _),(12,.int _ _)] ⟨U,U,U,U,O⟩ fun σ => ?_))))))))
 refine Kn ?_
 refine Mm [(12,.int _ _)] [(2,.pointer _),(10,.slice _ _ _),(11,.int _ _)] ⟨U,O⟩ ⟨U,U,U,O⟩ fun σ => ?_
 refine Ml (G := Nat) (fun k => k ≤ rs.length ∧ ∀ j (h : j < rs.length),j < k → ruleCode rs[j].pl = 0) (fun k => rs.length - k) (fun k => [(12,.int .i64 (k : Int))]) (fun k => []) (0) ?h0 ⟨U,O⟩ ⟨U,U,U,O⟩ U ?round
 case h0 => exact ⟨Nat.zero_le _,fun _ _ h => absurd h (by omega)⟩
 case round =>
  intro k hφ σ
  obtain ⟨hk,hz⟩ := hφ
  refine Jg fun N7 hN7 => Jk (Jd (Me U U) U U U (Ja (hN7 _ _ (Jb [(2,.pointer _),(10,.slice _ _ _),(11,.int _ _),(12,.int _ _),(13,.bool _)] ⟨U,U,U,U,U,O⟩ fun σ => Jg fun N8 hN8 => ?_))))
  refine Jt (b := _) U (fun hc13 => ?_) (fun hc13 => ?_)
  replace hc13 := odt hc13
  have hk1 : k < rs.length := by omega
  obtain ⟨ad,rfl,-,hca⟩ := hR.rd.at_ hk1
  refine Jw (hN8 _ _ (Jb [(2,.pointer _),(10,.slice _ _ _),(11,.int _ _),(12,.int _ _)] ⟨U,U,U,U,O⟩ fun σ => Jg fun N9 hN9 => Kn (Jg fun N10 hN10 => Jk (Jd (Jf U) U U U (Jd (Jz (m := k) Tryz.underlying57 Tryz.sizeOf89 U U (by omega) (by omega) (by omega)) U U U (Jd (Kk (cs := [_,_]) Tryz.isAgg89 Tryz.sizeOf89 U U (Mv hca)) U U U ?_))))))
  refine Ka (cs := #[.string .empty,.slice none 0 0]) Tryz.zeroValue89 U U (fun b4 hb4 => ?_)
  refine Jd (Jh U) U U U (Jr 1 (v := .agg #[_,_]) (cs' := #[_,_]) U U Tryz.sizeOf89 U U U U (leb U) U U (Ja (hN10 _ _ (gT [box b2 _,box b4 _] U (Jb [(2,.pointer _),(3,.int _ _),(4,.pointer _),(10,.slice _ _ _),(11,.int _ _),(12,.int _ _)] ⟨U,U,U,U,U,U,O⟩ fun σ => Jg fun N11 hN11 => Jk (Jd (Kk (cs := [_,_]) Tryz.isAgg89 Tryz.sizeOf89 U U (Kf 1 U)) U U U ?_))))))
  refine Km (Kb (vs := [.agg #[_,_]]) Tryz.func70 U (by kernel_rfl) U) (fun w hM => check_any w rs[k].pl.pat rs[k].pl.users rs[k].A rs[k].c (RuleR.lasts.base (hR.each _ (List.getElem_mem hk1)) hM)) U U U ?_
  refine Jd (Jh U) U U U (Ja (hN11 _ _ (Jb [(2,.pointer _),(3,.int _ _),(5,.int _ _),(10,.slice _ _ _),(11,.int _ _),(12,.int _ _)] ⟨U,U,U,U,U,U,O⟩ fun σ => Jg fun N12 hN12 => Jk (Jd (Jf U) U U U (Jd (Uj U U) U U U (Ja (hN12 _ _ (Jb [(2,.pointer _),(3,.int _ _),(5,.int _ _),(10,.slice _ _ _),(11,.int _ _),(12,.int _ _),(20,.bool _)] ⟨U,U,U,U,U,U,U,O⟩ fun σ => ?_))))))))
  refine Jt (b := _) U (fun hc20 => ?_) (fun hc20 => ?_)
  replace hc20 := odt hc20
  refine Jg fun N13 hN13 => Jk (Jd (Jf U) U U U (Jd (Jf U) U U U (Jd (Kd (vs := [(0,.int _ _),(1,.int _ _)]) (cells := #[_,_]) U (Ma _ _)) U U U (Jr 0 (v := .agg #[_,_]) (cs' := #[_,_]) U U Tryz.sizeOf33 U U U U (leb U) U U (Ja (hN13 _ _ (gT [box b2 _,box b4 _] U (Jb [(2,.pointer _)] ⟨U,O⟩ fun σ => ?_))))))))
  refine Ke fun w1 hM => ?_
  refine ⟨_,res1 rfl (rc 0 (cs := [_,_]) hM rfl rfl Tryz.isAgg33 Tryz.sizeOf33 rfl),?_⟩
  have hs := Uf (f := fun _ r => ruleCode r) (l := rls rs) (k := k) (by simpa using hk1) (fun j h hj => by simpa using hz j (by simpa using h) hj) (by simpa using hc20)
  exact ⟨by rw [hF,hs]; simp,hM.low⟩
  replace hc20 := Decidable.not_not.1 (odf hc20)
  refine Jw (hN9 _ _ (Jb [(2,.pointer _),(10,.slice _ _ _),(11,.int _ _),(12,.int _ _)] ⟨U,U,U,U,O⟩ fun σ => Jk (Jd (Kr U U ⟨by omega,by omega⟩) U U U (Jd (Jf U) U U U (Ja ?_)))))
  refine Kt (k + 1) (by omega) (⟨by omega,fun j h hj => by rcases Nat.lt_succ_iff_lt_or_eq.1 hj with h1 | rfl; exact hz j h h1; exact hc20⟩) ⟨U,O⟩ ⟨U,U,U,O⟩ ⟨_,U⟩
  replace hc13 := odf hc13
  have hF2 : rulesF (rls rs) = ⟨0,0⟩ := by rw [hF]; exact Qy fun j hj => by simpa using hz j (by simpa using hj) (by simp at hj; omega)
  refine Mx ?_
  refine hN5 _ _ (Jb [(2,.pointer _)] ⟨U,O⟩ fun σ => Jg fun N14 hN14 => Jk (Jd (Kd (vs := []) (cells := #[.int .i64 0,.int .i64 0]) U Qh) U U U (Jr 0 (v := .agg #[_,_]) (cs' := #[_,_]) U U Tryz.sizeOf33 U U U U (leb U) U U (Ja (hN14 _ _ (gT [box b2 _] U (Jb [(2,.pointer _)] ⟨U,O⟩ fun σ => ?_)))))))
  refine Ke fun w1 hM => ?_
  refine ⟨_,res1 rfl (rc 0 (cs := [_,_]) hM rfl rfl Tryz.isAgg33 Tryz.sizeOf33 rfl),?_⟩
  exact ⟨by rw [hF2],hM.low⟩
set_option maxHeartbeats 1000000 in
theorem cloneInts_any (w : World) (A : Option Addr) (c : Nat) (l : List Int) (hl : Rdl w 0 1 intCells A l) (hb : l.length * 8 ≤ 140737488355328) (hA : A = none → c = 0) : Calls Tryz.prog 77 #[.slice A l.length c] w fun e w' => ∃ v T', e = .returned v ∧ T' = [rowl intCells w.heap.size 3 1 (v) (l)] ∧ Mem w T' w' := by
 refine Kz Tryz.func77 U Tryz.ntmps77 (leb U) ?_
 refine Jb [(0,.slice _ _ _)] ⟨U,O⟩ fun σ => Jg fun N1 hN1 => Jk (Jd (Kq U) U U U (Ja (hN1 _ _ (Jb [(0,.slice _ _ _)] ⟨U,O⟩ fun σ => Jg fun N2 hN2 => Jg fun N3 hN3 => Jk (Jd (Kl U) U U U (Jd (y_eqlnil Tryz.underlying74 U U) U U U (Ja (hN3 _ _ ?_))))))))
 refine Jb [(0,.slice _ _ _),(4,.bool _)] ⟨U,U,O⟩ fun σ => ?_
 refine Jt (b := _) U (fun hc4 => ?_) (fun hc4 => ?_)
 obtain rfl : A = none := by simpa using hc4
 obtain rfl : l = [] := by
   cases l with
   | nil => rfl
   | cons x t => obtain ⟨_,h,_⟩ := hl (by simp); cases h
 refine Jg fun N4 hN4 => Jk (Jd (Kq U) U U U (Ja (hN4 _ _ (Jb [(2,.slice _ _ _)] ⟨U,O⟩ fun σ => ?_))))
 refine Ke fun w1 hM => ?_
 refine ⟨_,res1 rfl (rt (v := .slice _ _ _) rfl),?_⟩
 exact ⟨_,_,rfl,rfl,Qa intCells _ 1 hM⟩
 refine Jw (hN2 _ _ (Jb [(0,.slice _ _ _)] ⟨U,O⟩ fun σ => Jg fun N5 hN5 => Jk ?_))
 refine gop_bslice0 intCells Tryz.underlying74 Tryz.sizeOf3 U (fun b5 hb5 => ?_)
 refine Jd (Kl U) U U U ?_
 refine Qj 0 (f := intCells) (l2 := l) Tryz.underlying74 el3 wide_int (v := .slice (some ⟨b5,0,none⟩) 0 0) U U U U hA (by simp [maxLen]; omega) (by simp; omega) (fun w hM => (hl.base hM).src (fun _ => U)) U (fun v7 => ?_)
 refine Jd (Kx (v := v7) U) U U U (Ja (hN5 _ _ (gT [rowl _ _ _ _ _ _] U (Jb [(2,v7)] ⟨U,O⟩ fun σ => ?_))))
 refine Ke fun w1 hM => ?_
 refine ⟨_,res1 rfl (rt (v := v7) rfl),?_⟩
 exact ⟨_,_,rfl,rfl,hM⟩
end Go.Proofs.YtbkameioedmlkaaGreatDoor
namespace Go.Proofs.YtbkameioedmlkaaGreatDoor
open Go.RowKit Go.Cf
set_option maxRecDepth 10000
set_option maxHeartbeats 2000000 in
theorem back1_iters (w0 : World) (A : Option Addr) (c : Nat) (rs : List RuleC) (hR : RulesR w0 0 A c rs) (b1 : Nat) : ItersAt Tryz.prog w0 106 [.pointer (some ⟨b1, 0, none⟩)] (fun x : Int × RuleC => [.int .i64 x.1, ruleV x.2]) (backL rs) [box b1 (.cells #[.slice A rs.length c] 57)] := by
 intro ι W l J Jx hM0 hY
 have hln := hR.sb.len
 have hmx := hR.sb.max
 unfold maxLen at hmx
 refine gcallsI Tryz.func106 U Tryz.ntmps106 (leb U) hM0 ?_
 refine Jb [(0,.func _ _ _),(1,_)] ⟨U,U,O⟩ fun σ => Jg fun N1 hN1 => Jk (Jd (Jq Tryz.isAgg57 U (Jm 1 U U)) U U U (Jd (Ks Tryz.underlying57 U) U U U (Jd (Zi U U ⟨by omega,by omega⟩) U U U (Jd (Jh U) U U U (Ja (hN1 _ _ (Jb [(0,.func _ _ _),(1,_),(3,.int _ _)] ⟨U,U,U,O⟩ fun σ => Kn ?_)))))))
 refine Mm [(3,.int _ _)] [(0,.func _ _ _),(1,_)] ⟨U,O⟩ ⟨U,U,O⟩ fun σ => ?_
 refine Ml (G := Nat) (fun k => k ≤ rs.length) (fun k => rs.length - k) (fun k => [(3,.int .i64 ((rs.length : Int) - 1 - k))]) (fun k => [(0,J k)]) (0) ?h0 ⟨congrArg (Value.int .i64) (by omega),trivial⟩ ⟨U,U,O⟩ U ?round
 case h0 => exact Nat.zero_le _
 case round =>
  intro k hφ σ
  have hk : k ≤ rs.length := hφ
  refine gT [_,box b1 _] U (Jg fun N2 hN2 => Jg fun N3 hN3 => Jk (Jd (Jf U) U U U (Jd (Wj U U) U U U (Ja (hN3 _ _ (Jb [(0,.func _ _ _),(1,_),(3,.int _ _),(8,.bool _)] ⟨U,U,U,U,O⟩ fun σ => ?_))))))
  refine Jt (b := _) U (fun hc8 => ?_) (fun hc8 => ?_)
  replace hc8 := odt hc8
  have hk1 : k < rs.length := by omega
  obtain ⟨ad,rfl,-,hca⟩ := hR.rd.at_ (show rs.length - 1 - k < rs.length by omega)
  refine Jw (hN2 _ _ (Jb [(0,.func _ _ _),(1,_),(3,.int _ _)] ⟨U,U,U,O⟩ fun σ => Jg fun N4 hN4 => Kn (Jg fun N5 hN5 => Jk (Jd (Ju (v := .func _ _ _) U) U U U (Jd (Jf U) U U U (Jd (Jq Tryz.isAgg57 U (Jm 1 U U)) U U U (Jd (Jf U) U U U (Jd (Jz (m := rs.length - 1 - k) Tryz.underlying57 Tryz.sizeOf89 U U (by omega) (by omega) (by omega)) U U U ?_))))))))
  refine Jd (Kk (cs := [_,_]) Tryz.isAgg89 Tryz.sizeOf89 U U (Mv hca)) U U U ?_
  refine gop_yield (l := l) (k := k) (J := J) (Jx := Jx) (vs := [.int _ _,.agg #[_,_]]) U U U (fun r W1 hM1 => hY k ((rs.length : Int) - 1 - k,rs[rs.length - 1 - k]) r W1 (backL_at hk1) hM1) U (fun bY17 gY17 hY17 => ?_)
  refine Jd (Mp U) U U U (Ja (hN5 _ _ (gT [_,box b1 _] U (Jb [(0,.func _ _ _),(1,_),(3,.int _ _),(18,.bool _)] ⟨U,U,U,U,O⟩ fun σ => ?_))))
  refine Jt (b := _) U (fun hc18 => ?_) (fun hc18 => ?_)
  obtain rfl : bY17 = false := by simpa using hc18
  obtain ⟨iY,rfl⟩ : ∃ i,gY17 = Jx k i := hY17
  refine Ke fun w1 hM => ?_
  refine ⟨_,res0 rfl,?_⟩
  exact ⟨⟨_,rfl⟩,.inr ⟨k,iY,by rw [MJ]; exact hk1,hM.sub (List.singleton_sublist.2 (by simp))⟩⟩
  obtain rfl : bY17 = true := by simpa using hc18
  obtain rfl : gY17 = J (k + 1) := hY17
  refine Jw (hN4 _ _ (Jb [(0,.func _ _ _),(1,_),(3,.int _ _)] ⟨U,U,U,O⟩ fun σ => Jk (Jd (Jf U) U U U (Jd (Zi U U ⟨by omega,by omega⟩) U U U (Jd (Jh U) U U U (Ja ?_))))))
  refine Kt (k + 1) (by omega) (show k + 1 ≤ _ by omega) ⟨congrArg (Value.int .i64) (by omega),trivial⟩ ⟨U,U,O⟩ ⟨_,U⟩
  replace hc8 := odf hc8
  refine Mx ?_
  intro w1 hM
  refine ⟨_,res0 rfl,?_⟩
  exact ⟨⟨_,rfl⟩,.inl (by rw [MJ,show rs.length = k by omega]; exact hM.sub (List.singleton_sublist.2 (by simp)))⟩
set_option maxHeartbeats 1000000 in
theorem back_any (w : World) (A : Option Addr) (n c : Nat) : Calls Tryz.prog 75 #[.slice A n c] w fun e w' => ∃ v T', e = .returned v ∧ (∃ b1, v = .func (.func 106) #[] #[.pointer (some ⟨b1, 0, none⟩)] ∧ T' = [box b1 (.cells #[.slice A n c] 57)]) ∧ Mem w T' w' := by
 refine Kz Tryz.func75 U Tryz.ntmps75 (leb U) ?_
 refine Jb [(0,.slice _ _ _)] ⟨U,O⟩ fun σ => Jg fun N1 hN1 => Jk ?_
 refine Mt (v := .slice _ _ _) (cs := #[_]) U U U (fun b1 hb1 => ?_)
 refine Jd (Kx (v := .nilFunc) U) U U U (Ja (hN1 _ _ (gT [box b1 _] U (Jb [(1,.pointer _)] ⟨U,O⟩ fun σ => Jg fun N2 hN2 => Jk (Jd (Ym (vs := [.pointer (some ⟨b1,0,none⟩)]) U) U U U (Jd (Kx (v := .func (.func 106) #[] #[.pointer (some ⟨b1,0,none⟩)]) U) U U U (Ja (hN2 _ _ ?_))))))))
 refine Jb [(2,.func (.func 106) #[] #[.pointer (some ⟨b1,0,none⟩)])] ⟨U,O⟩ fun σ => ?_
 refine Ke fun w1 hM => ?_
 refine ⟨_,res1 rfl (rt (v := .func (.func 106) #[] #[.pointer (some ⟨b1,0,none⟩)]) rfl),?_⟩
 exact ⟨_,_,rfl,⟨_,rfl,rfl⟩,hM⟩
set_option maxHeartbeats 2000000 in
theorem find_any (w : World) (A : Option Addr) (c : Nat) (rs : List RuleC) (hR : RulesR w 0 A c rs) (path : ByteArray) (hps : ∀ a ∈ rs, a.pl.pat.size ≤ 4000000) (hs : path.size ≤ 4000000) (hus : ∀ a ∈ rs, a.pl.users.length ≤ 1000000) : Calls Tryz.prog 40 #[.slice A rs.length c, .string path] w fun e w' => ∃ v T', e = .returned v ∧ T' = [rowl intCells w.heap.size 3 1 (v) (findU (rls rs) path)] ∧ Mem w T' w' := by
 have hln := hR.sb.len
 have hmx := hR.sb.max
 unfold maxLen at hmx
 refine Kz Tryz.func40 U Tryz.ntmps40 (leb U) ?_
 refine Jb [(0,.slice _ _ _),(1,.string _)] ⟨U,U,O⟩ fun σ => Jg fun N1 hN1 => Jk ?_
 refine Mt (v := .string _) (cs := #[_]) U U U (fun b3 hb3 => ?_)
 refine Ka (cs := #[.slice none 0 0]) Tryz.zeroValue74 U U (fun b4 hb4 => ?_)
 refine Ja (hN1 _ _ (gT [box b3 _,box b4 _] U (Jb [(0,.slice _ _ _),(3,.pointer _),(4,.pointer _)] ⟨U,U,U,O⟩ fun σ => ?_)))
 refine gseqAB fun N2 hN2 => ?_
 refine Jk (Jd (Kl U) U U U ?_)
 refine My (fun v T' => ∃ c1,v = .func (.func 106) #[] #[.pointer (some ⟨c1,0,none⟩)] ∧ T' = [box c1 (.cells #[.slice A rs.length c] 57)]) (Kb (vs := [.slice _ _ _]) Tryz.func75 U (by kernel_rfl) U) (fun w hM => back_any w A rs.length c) U U U ?_
 rintro _ _ ⟨c1,rfl,rfl⟩
 refine Ja (hN2 _ _ ?_)
 refine gthen_T [box b3 _,box b4 _,box c1 _] U ?_
 refine QZ [(3,.pointer _),(4,.pointer _),(8,.func _ _ _)] ⟨U,U,U,O⟩ fun σ => ?_
 refine grange (lb := [.pointer (some ⟨c1,0,none⟩)]) (ps := [9,10]) (xs := backL rs) (fun k => [sure (∀ j (h : j < rs.length),rs.length - k ≤ j → matchR path rs[j].pl = false),box b3 (.cells #[.string path] 9),box b4 (.cells #[.slice none 0 0] 74)]) (fun _ (i : Value) => [box b4 (.cells #[i] 74),rowl intCells w.heap.size 3 1 (i) (findU (rls rs) path)]) U (e_enter Tryz.func106 U (by kernel_rfl)) (back1_iters _ A c rs hR c1) (fun w hM => hM.sure (fun j h hj => absurd hj (by omega))) (by decide) (fun _ => U) ?round ?done ?stop
 case round =>
  intro lR k x q hx NR hNR
  obtain ⟨xi,xr⟩ := x
  obtain ⟨hk1,hk2,hxr⟩ := backL_inv hx
  obtain rfl : xr = rs[rs.length - 1 - k] := hxr
  have hRk := hR.each _ (List.getElem_mem hk2)
  refine Un (fun w hM => hM.known 1 U) ?_
  intro hJ
  refine Jb [(3,.pointer _),(4,.pointer _),(8,.func _ _ _),(10,.agg #[_,_])] ⟨U,U,U,U,O⟩ fun σ => Jk ?_
  refine Ka (cs := #[.string .empty,.slice none 0 0]) Tryz.zeroValue89 U U (fun b6 hb6 => ?_)
  refine Jr 4 (v := .agg #[_,_]) (cs' := #[_,_]) U U Tryz.sizeOf89 U U U U (leb U) U U (Ja ?_)
  refine hNR _ _ fun q2 => ?_
  refine Jb [(3,.pointer _),(4,.pointer _),(6,.pointer _),(8,.func _ _ _)] ⟨U,U,U,U,O⟩ fun σ => Kn (Jg fun N3 hN3 => Jk (Jd (Jc fa89_0 U) U U U (Jd (Jq Tryz.isAgg9 U (Jm 4 U U)) U U U (Jd (Jq Tryz.isAgg9 U (Jm 2 U U)) U U U ?_))))
  refine Km (Kb (vs := [.string _,.string _]) Tryz.func76 U (by kernel_rfl) U) (fun w hM => matches_any w _ _ (hps _ (List.getElem_mem hk2)) hs) U U U ?_
  refine Ja (hN3 _ _ (gT [_,sure _,box b3 _,box b4 _,box b6 _] U (Jb [(3,.pointer _),(4,.pointer _),(6,.pointer _),(8,.func _ _ _),(14,.bool _)] ⟨U,U,U,U,U,O⟩ fun σ => ?_)))
  refine Jt (b := _) U (fun hc14 => ?_) (fun hc14 => ?_)
  refine Jg fun N4 hN4 => Jk (Jd (Jc fa89_1 U) U U U (Jd (Jq Tryz.isAgg74 U (Jm 4 U U)) U U U ?_))
  refine My (fun v T' => ∃ lo,w.heap.size ≤ lo ∧ T' = [rowl intCells lo 3 1 (v) (rs[rs.length - 1 - k].pl.users)]) (Kb (vs := [.slice _ _ _]) Tryz.func77 U (by kernel_rfl) U) (fun w hM => (cloneInts_any w _ _ _ (hRk.rd.base hM) (by have h0 := hus _ (List.getElem_mem hk2); omega) hRk.sb.nil).mono fun _ _ ⟨v,T1,h1,h2,h3⟩ => ⟨v,T1,h1,⟨_,hM.low.size,h2⟩,h3⟩) U U U ?_
  rintro v17 _ ⟨lo17,hlo17,rfl⟩
  refine Ky (fun w hM => Mz (hM.ok _ (List.mem_of_getElem? (i := 5) U))) ?_
  rintro ⟨A17,c17,rfl,hc17,hm17,hn17⟩
  refine Yk _ (Wg 5 U hlo17) ?_
  refine Jr 3 (v := .slice A17 _ c17) (cs' := #[_]) U U Tryz.sizeOf74 U U U U (leb U) U U (Ja (hN4 _ _ (gT [_,sure _,box b3 _,box b4 _,box b6 _,rowl _ _ _ _ _ _] U (Jb [(4,.pointer _)] ⟨U,O⟩ fun σ => ?_))))
  refine Ke fun w1 hM => ?_
  refine ⟨.slice A17 (rs[rs.length - 1 - k].pl.users.length) c17,?_⟩
  rw [findU_hit hk2 hc14 (fun j h hj => hJ j h (by omega))]
  exact hM.sub (.cons_cons _ (.cons _ (.cons _ (.cons_cons _ (.cons _ (.cons_cons _ .slnil))))))
  refine Jw ?_
  intro w1 hM
  have hJ2 : ∀ j (h : j < rs.length),rs.length - (k + 1) ≤ j → matchR path rs[j].pl = false := by
    intro j h hj
    rcases Nat.lt_or_ge j (rs.length - k) with h1 | h1
    · obtain rfl : j = rs.length - 1 - k := by omega
      exact hc14
    · exact hJ j h h1
  exact (hM.resure 1 rfl hJ2).sub (.cons_cons _ (.cons_cons _ (.cons_cons _ (.cons_cons _ (.cons _ .slnil)))))
 case done =>
  intro D qD
  refine Jb [(4,.pointer _)] ⟨U,O⟩ fun σ => ?_
  refine Un (fun w hM => hM.known 2 U) ?_
  intro hJ
  have hz : findU (rls rs) path = [] := findU_none (fun j h => hJ j h (by rw [MJ]; omega))
  refine Jg fun N5 hN5 => Jk (Jr 4 (v := .slice _ _ _) (cs' := #[_]) U U Tryz.sizeOf74 U U U U (leb U) U U (Ja (hN5 _ _ (gT [_,_,sure _,box b3 _,box b4 _] U (Jb [(4,.pointer _)] ⟨U,O⟩ fun σ => ?_)))))
  refine Ke (UQ 0 U U fun w1 hM => ?_)
  refine ⟨_,res1 rfl (rc1 4 hM rfl rfl Tryz.isAgg74),?_⟩
  exact ⟨_,_,rfl,by rw [hz]; rfl,(Qa intCells 3 1 hM).dropTo 5 rfl⟩
 case stop =>
  rintro D qD k i hk w1 hM
  refine ⟨_,res1 rfl (rc1 2 hM rfl rfl Tryz.isAgg74),?_⟩
  exact ⟨_,_,rfl,rfl,hM.dropTo 3 rfl⟩
end Go.Proofs.YtbkameioedmlkaaGreatDoor
namespace Go.Proofs.YtbkameioedmlkaaGreatDoor
open Go.RowKit Go.Cf
set_option maxRecDepth 10000
theorem bd185_0_1 (x1 : Int) (x2 : Int) : Tryz.prog.built 185 [(0, .int .i64 x1), (1, .int .i64 x2)] = some #[.int .i64 x1, .int .i64 x2] := by kernel_rfl
set_option maxHeartbeats 2000000 in
theorem dMul_any (w : World) (a b : Int) (h0 : 0 ≤ a) (h1 : a < dMod) (h2 : 0 ≤ b) (h3 : b < 9223372036854775808) : Calls Tryz.prog 139 #[.int .i64 a, .int .i64 b] w fun e w' => e = .returned (.int .i64 (mulD a b)) ∧ Below w.heap.size w w' := by
 have hdm : dMod = 2305843009213693951 := rfl
 refine Kz Tryz.func139 U Tryz.ntmps139 (leb U) ?_
 refine Jb [(0,.int _ _),(1,.int _ _)] ⟨U,U,O⟩ fun σ => Jg fun N1 hN1 => Jk (Jd (Jh U) U U U (Ja (hN1 _ _ (Jb [(0,.int _ _),(1,.int _ _)] ⟨U,U,O⟩ fun σ => Jg fun N2 hN2 => Jk (Jd (Jh U) U U U (Ja (hN2 _ _ (Jb [(0,.int _ _),(1,.int _ _),(5,.int _ _)] ⟨U,U,U,O⟩ fun σ => ?_))))))))
 refine Jg fun N3 hN3 => Kn ?_
 refine Mm [(0,.int _ _),(1,.int _ _),(5,.int _ _)] [] ⟨U,U,U,O⟩ trivial fun σ => ?_
 refine Ml (G := Nat × Int × Int × Int) (fun (n,o,x,y) => MulI n o x y ∧ mulN n o x y = mulD a b) (fun (n,o,x,y) => n) (fun (n,o,x,y) => [(0,.int .i64 x),(1,.int .i64 y),(5,.int .i64 o)]) (fun (n,o,x,y) => []) ((63,0,a,b)) ?h0 ⟨U,U,U,O⟩ trivial U ?round
 case h0 => exact ⟨mulI_start h0 h1 h2 h3,rfl⟩
 case round =>
  rintro ⟨n,o,x,y⟩ hφ σ
  obtain ⟨hI,hr⟩ : MulI n o x y ∧ mulN n o x y = mulD a b := hφ
  refine Jg fun N4 hN4 => Jg fun N5 hN5 => Jk (Jd (Jf U) U U U (Jd (Mh U U) U U U (Ja (hN5 _ _ (Jb [(0,.int _ _),(1,.int _ _),(5,.int _ _),(7,.bool _)] ⟨U,U,U,U,O⟩ fun σ => ?_)))))
  refine Jt (b := _) U (fun hc7 => ?_) (fun hc7 => ?_)
  replace hc7 := odt hc7
  have hN := hI.next hc7
  have hE := mulN_next hI hc7
  have hn := hI.pos hc7
  have ho0 := hI.o0
  have ho1 := hI.o1
  have ha0 := hI.a0
  have ha1 := hI.a1
  refine Jw (hN4 _ _ (Jb [(0,.int _ _),(1,.int _ _),(5,.int _ _)] ⟨U,U,U,O⟩ fun σ => Jg fun N6 hN6 => Kn (Jg fun N7 hN7 => Jg fun N8 hN8 => Jk (Jd (Jf U) U U U (Jd (y_and1 U U) U U U (Jd (Mc U U) U U U (Ja (hN8 _ _ ?_))))))))
  refine Jb [(0,.int _ _),(1,.int _ _),(5,.int _ _),(12,.bool _)] ⟨U,U,U,U,O⟩ fun σ => ?_
  refine Jt (b := _) U (fun hc12 => ?_) (fun hc12 => ?_)
  replace hc12 := odt hc12
  refine Jk (Jd (Jf U) U U U (Jd (Jf U) U U U (Jd (Kr U U ⟨by omega,by omega⟩) U U U (Jd (y_rem U U (by omega) (by decide) (by decide)) U U U (Jd (Jh U) U U U (Ja (hN7 _ _ (Jb [(0,.int _ _),(1,.int _ _),(5,.int _ _)] ⟨U,U,U,O⟩ fun σ => ?_))))))))
  refine Jk (Jd (Jf U) U U U (Jd (y_mul U U ⟨by omega,by omega⟩) U U U (Jd (y_rem U U (by omega) (by decide) (by decide)) U U U (Jd (Jh U) U U U (Ja (hN6 _ _ (Jb [(0,.int _ _),(1,.int _ _),(5,.int _ _)] ⟨U,U,U,O⟩ fun σ => Jk (Jd (Jf U) U U U ?_))))))))
  refine Jd (y_shr1 U U) U U U (Jd (Jh U) U U U (Ja ?_))
  refine Kt ((n - 1,(o + x) % dMod,2 * x % dMod,y / 2)) (by show n - 1 < n; omega) (⟨by rw [if_pos hc12] at hN; exact hN,by rw [if_pos hc12] at hE; exact hE.trans hr⟩) ⟨U,U,U,O⟩ trivial ⟨_,U⟩
  replace hc12 := odf hc12
  refine Jw (hN7 _ _ (Jb [(0,.int _ _),(1,.int _ _),(5,.int _ _)] ⟨U,U,U,O⟩ fun σ => Jk (Jd (Jf U) U U U (Jd (y_mul U U ⟨by omega,by omega⟩) U U U (Jd (y_rem U U (by omega) (by decide) (by decide)) U U U (Jd (Jh U) U U U (Ja (hN6 _ _ ?_))))))))
  refine Jb [(0,.int _ _),(1,.int _ _),(5,.int _ _)] ⟨U,U,U,O⟩ fun σ => Jk (Jd (Jf U) U U U (Jd (y_shr1 U U) U U U (Jd (Jh U) U U U (Ja ?_))))
  refine Kt ((n - 1,o,2 * x % dMod,y / 2)) (by show n - 1 < n; omega) (⟨by rw [if_neg hc12] at hN; exact hN,by rw [if_neg hc12] at hE; exact hE.trans hr⟩) ⟨U,U,U,O⟩ trivial ⟨_,U⟩
  replace hc7 := odf hc7
  refine Mx ?_
  refine hN3 _ _ (Jb [(5,.int _ _)] ⟨U,O⟩ fun σ => Jg fun N9 hN9 => Jk (Jd (Jf U) U U U (Jd (Jh U) U U U (Ja (hN9 _ _ (Jb [(4,.int _ _)] ⟨U,O⟩ fun σ => ?_))))))
  refine Ke fun w1 hM => ?_
  refine ⟨_,res1 rfl (rt (v := .int _ _) rfl),?_⟩
  exact ⟨by rw [← hr,mulN_stop (by omega)],hM.low⟩
set_option maxHeartbeats 2000000 in
theorem dNext_any (w : World) (x y f : Int) (h0 : 0 ≤ x) (h1 : x < dMod) (h2 : 0 ≤ y) (h3 : y ≤ dMod) (h4 : 0 ≤ f) (h5 : f < 9223372036854775808) : Calls Tryz.prog 112 #[.agg #[.int .i64 x, .int .i64 y], .int .i64 f] w fun e w' => e = .returned (.int .i64 (nextD x y f)) ∧ Below w.heap.size w w' := by
 have hdm : dMod = 2305843009213693951 := rfl
 obtain ⟨hb0,hb1⟩ := mulD_bd h0 h1 h4 h5
 refine Kz Tryz.func112 U Tryz.ntmps112 (leb U) ?_
 refine Jb [(0,.agg #[_,_]),(1,.int _ _)] ⟨U,U,O⟩ fun σ => Jg fun N1 hN1 => Jk ?_
 refine Mt (v := .agg #[_,_]) (cs := #[_,_]) U U U (fun b2 hb2 => ?_)
 refine Jd (Jh U) U U U (Ja (hN1 _ _ (gT [box b2 _] U (Jb [(1,.int _ _),(2,.pointer _)] ⟨U,U,O⟩ fun σ => Jg fun N2 hN2 => ?_))))
 refine Qx (by kernel_rfl) (by kernel_rfl) ?_
 refine gq (We (m := 0) Tryz.underlying185 Tryz.sizeOf3 U U U (by omega) (by omega)) U U U (gq (Jq Tryz.isAgg3 U (Jm 0 U U)) U U U (gq (Jf U) U U U ?_))
 refine Ww (Kb (vs := [.int _ _,.int _ _]) Tryz.func139 U (by kernel_rfl) U) (fun w hM => dMul_any w x f h0 h1 h4 h5) U U U ?_
 refine gq (We (m := 1) Tryz.underlying185 Tryz.sizeOf3 U U U (by omega) (by omega)) U U U (gq (Jq Tryz.isAgg3 U (Jm 0 U U)) U U U (gq (Kr U U ⟨by omega,by omega⟩) U U U (gq (y_rem U U (by omega) (by decide) (by decide)) U U U (gq (Jh U) U U U ?_))))
 refine Mn ?_
 refine hN2 _ _ (Jb [(4,.int _ _)] ⟨U,O⟩ fun σ => ?_)
 refine Ke fun w1 hM => ?_
 refine ⟨_,res1 rfl (rt (v := .int _ _) rfl),?_⟩
 exact ⟨rfl,hM.low⟩
set_option maxHeartbeats 2000000 in
theorem dOf_any (w : World) (A : Option Addr) (c : Nat) (s : ByteArray) (hl : Rdl w 0 1 u8Cells A s.data.toList) (hs : s.size ≤ 4096) : Calls Tryz.prog 84 #[.slice A s.size c] w fun e w' => e = .returned (.tuple #[.int .i64 (ofD s), fv ⟨0, 0⟩]) ∧ Below w.heap.size w w' := by
 have hdm : dMod = 2305843009213693951 := rfl
 refine Kz Tryz.func84 U Tryz.ntmps84 (leb U) ?_
 refine Jb [(0,.slice _ _ _)] ⟨U,O⟩ fun σ => Jg fun N1 hN1 => Jk (Jd (Jh U) U U U ?_)
 refine Ka (cs := #[.int .i64 0,.int .i64 0]) Tryz.zeroValue33 U U (fun b3 hb3 => ?_)
 refine Ja (hN1 _ _ (gT [box b3 _] U (Jb [(0,.slice _ _ _),(3,.pointer _)] ⟨U,U,O⟩ fun σ => Jg fun N2 hN2 => Jg fun N3 hN3 => Jk (Jd (Kl U) U U U (Jd (Ks Tryz.underlying157 U) U U U (Jd (Mh U U) U U U (Ja (hN3 _ _ ?_))))))))
 refine Jb [(0,.slice _ _ _),(3,.pointer _),(9,.bool _)] ⟨U,U,U,O⟩ fun σ => ?_
 refine Jt (b := _) U (fun hc9 => ?_) (fun hc9 => ?_)
 exfalso; have h9 := odt hc9; omega
 replace hc9 := odf hc9
 refine Jw (hN2 _ _ (Jb [(0,.slice _ _ _),(3,.pointer _)] ⟨U,U,O⟩ fun σ => Jg fun N4 hN4 => Jk (Jd (Jh U) U U U (Ja (hN4 _ _ (Jb [(0,.slice _ _ _),(3,.pointer _),(4,.int _ _)] ⟨U,U,U,O⟩ fun σ => Jg fun N5 hN5 => Jg fun N6 hN6 => Jk (Jd (Kl U) U U U (Jd (Ks Tryz.underlying157 U) U U U ?_))))))))
 refine Jd (Jf U) U U U (Ja (hN6 _ _ (Jb [(3,.pointer _),(4,.int _ _),(11,.slice _ _ _),(12,.int _ _),(13,.int _ _)] ⟨U,U,U,U,U,O⟩ fun σ => Kn ?_)))
 refine Mm [(4,.int _ _),(13,.int _ _)] [(3,.pointer _),(11,.slice _ _ _),(12,.int _ _)] ⟨U,U,O⟩ ⟨U,U,U,O⟩ fun σ => ?_
 refine Ml (G := Nat) (fun k => k ≤ s.size) (fun k => s.size - k) (fun k => [(4,.int .i64 (ofL 1 (s.data.toList.take k))),(13,.int .i64 (k : Int))]) (fun k => []) (0) ?h0 ⟨U,U,O⟩ ⟨U,U,U,O⟩ U ?round
 case h0 => exact Nat.zero_le _
 case round =>
  intro k hφ σ
  have hk : k ≤ s.size := hφ
  refine Jg fun N7 hN7 => Jk (Jd (Me U U) U U U (Ja (hN7 _ _ (Jb [(3,.pointer _),(4,.int _ _),(11,.slice _ _ _),(12,.int _ _),(13,.int _ _),(14,.bool _)] ⟨U,U,U,U,U,U,O⟩ fun σ => Jg fun N8 hN8 => ?_))))
  refine Jt (b := _) U (fun hc14 => ?_) (fun hc14 => ?_)
  replace hc14 := odt hc14
  have hk1 : k < s.data.toList.length := by simp; omega
  obtain ⟨ad,rfl,-,hca⟩ := hl.at_ hk1
  obtain ⟨ho0,ho1⟩ := ofL_bd (s.data.toList.take k) 1 (by decide)
  have hb8 : (s.data.toList[k]).toNat < 256 := UInt8.toNat_lt _
  refine Jw (hN8 _ _ (Jb [(3,.pointer _),(4,.int _ _),(11,.slice _ _ _),(12,.int _ _),(13,.int _ _)] ⟨U,U,U,U,U,O⟩ fun σ => Jg fun N9 hN9 => Kn (Jg fun N10 hN10 => Jk (Jd (Jz (m := k) Tryz.underlying157 Tryz.sizeOf5 U U (by omega) (by omega) (by omega)) U U U (Jd (Jq Tryz.isAgg5 U (Ms (hca 0 _ U))) U U U (Jd (Jh U) U U U (Ja (hN10 _ _ ?_))))))))
  refine Jb [(3,.pointer _),(4,.int _ _),(6,.int _ _),(11,.slice _ _ _),(12,.int _ _),(13,.int _ _)] ⟨U,U,U,U,U,U,O⟩ fun σ => Jk (Jd (Jf U) U U U (Jd (Jf U) U U U (Jd (y_toInt (by kernel_rfl) Tryz.underlying3 U (by omega) (by omega)) U U U (Jd (Kr U U ⟨by omega,by omega⟩) U U U (Jd (Kd (vs := [(0,.int _ _),(1,.int _ _)]) (cells := #[_,_]) U (bd185_0_1 _ _)) U U U ?_)))))
  refine Km (Kb (vs := [.agg #[_,_],_]) Tryz.func112 U (by kernel_rfl) U) (fun w hM => dNext_any w _ _ 257 ho0 ho1 (by omega) (by omega) (by decide) (by decide)) U U U ?_
  refine Jd (Jh U) U U U (Ja (hN9 _ _ (Jb [(3,.pointer _),(4,.int _ _),(11,.slice _ _ _),(12,.int _ _),(13,.int _ _)] ⟨U,U,U,U,U,O⟩ fun σ => Jk (Jd (Kr U U ⟨by omega,by omega⟩) U U U (Jd (Jf U) U U U (Ja ?_))))))
  refine Kt (k + 1) (by omega) (show k + 1 ≤ _ by omega) ⟨(congrArg (Value.int .i64) (ofL_take hk1).symm),U,trivial⟩ ⟨U,U,U,O⟩ ⟨_,U⟩
  replace hc14 := odf hc14
  refine Mx ?_
  refine hN5 _ _ (Jb [(3,.pointer _),(4,.int _ _)] ⟨U,U,O⟩ fun σ => Jg fun N11 hN11 => Jk (Jd (Jf U) U U U (Jd (Kd (vs := []) (cells := #[.int .i64 0,.int .i64 0]) U Qh) U U U (Jd (Jh U) U U U (Jr 0 (v := .agg #[_,_]) (cs' := #[_,_]) U U Tryz.sizeOf33 U U U U (leb U) U U (Ja (hN11 _ _ (gT [box b3 _] U ?_))))))))
  refine Jb [(2,.int _ _),(3,.pointer _)] ⟨U,U,O⟩ fun σ => ?_
  refine Ke fun w1 hM => ?_
  refine ⟨_,res2 rfl (rt (v := .int _ _) rfl) (rc 0 (cs := [_,_]) hM rfl rfl Tryz.isAgg33 Tryz.sizeOf33 rfl),?_⟩
  exact ⟨by rw [List.take_of_length_le (by simp; omega)]; rfl,hM.low⟩
set_option maxHeartbeats 2000000 in
theorem dPair_any (w : World) (a b : Int) (h0 : 0 ≤ a) (h1 : a < dMod) (h2 : 0 ≤ b) (h3 : b < dMod) : Calls Tryz.prog 85 #[.int .i64 a, .int .i64 b] w fun e w' => e = .returned (.int .i64 (pairD a b)) ∧ Below w.heap.size w w' := by
 have hdm : dMod = 2305843009213693951 := rfl
 obtain ⟨hb0,hb1⟩ := nextD_bd b 7 31
 refine Kz Tryz.func85 U Tryz.ntmps85 (leb U) ?_
 refine Jb [(0,.int _ _),(1,.int _ _)] ⟨U,U,O⟩ fun σ => Jg fun N1 hN1 => Jk (Jd (Jh U) U U U (Ja (hN1 _ _ (Jb [(0,.int _ _),(1,.int _ _)] ⟨U,U,O⟩ fun σ => Jg fun N2 hN2 => Jk (Jd (Jf U) U U U (Jd (Jf U) U U U (Jd (Kd (vs := [(0,.int _ _),(1,_)]) (cells := #[_,_]) U (bd185_0_1 _ _)) U U U ?_)))))))
 refine Km (Kb (vs := [.agg #[_,_],_]) Tryz.func112 U (by kernel_rfl) U) (fun w hM => dNext_any w b 7 31 h2 h3 (by decide) (by decide) (by decide) (by decide)) U U U ?_
 refine Jd (Kd (vs := [(0,.int _ _),(1,.int _ _)]) (cells := #[_,_]) U (bd185_0_1 _ _)) U U U ?_
 refine Km (Kb (vs := [.agg #[_,_],_]) Tryz.func112 U (by kernel_rfl) U) (fun w hM => dNext_any w a _ 1000003 h0 h1 hb0 (by omega) (by decide) (by decide)) U U U ?_
 refine Jd (Jh U) U U U (Ja (hN2 _ _ (Jb [(4,.int _ _)] ⟨U,O⟩ fun σ => ?_)))
 refine Ke fun w1 hM => ?_
 refine ⟨_,res1 rfl (rt (v := .int _ _) rfl),?_⟩
 exact ⟨rfl,hM.low⟩
set_option maxHeartbeats 4000000 in
theorem dStr_any (w : World) (A : Option Addr) (c : Nat) (l : List ByteArray) (hl : Rdl w 0 1 strCells A l) (hn : l.length ≤ 120) (hz : ∀ s ∈ l, s.size ≤ 80) : Calls Tryz.prog 47 #[.slice A l.length c] w fun e w' => e = .returned (.tuple #[.int .i64 (strD l), fv ⟨0, 0⟩]) ∧ Below w.heap.size w w' := by
 have hdm : dMod = 2305843009213693951 := rfl
 refine Kz Tryz.func47 U Tryz.ntmps47 (leb U) ?_
 refine Jb [(0,.slice _ _ _)] ⟨U,O⟩ fun σ => Jg fun N1 hN1 => Jk (Jd (Jh U) U U U ?_)
 refine Ka (cs := #[.int .i64 0,.int .i64 0]) Tryz.zeroValue33 U U (fun b3 hb3 => ?_)
 refine Ja (hN1 _ _ (gT [box b3 _] U (Jb [(0,.slice _ _ _),(3,.pointer _)] ⟨U,U,O⟩ fun σ => Jg fun N2 hN2 => Jg fun N3 hN3 => Jk (Jd (Kl U) U U U (Jd (Ks Tryz.underlying22 U) U U U (Jd (Mh U U) U U U (Ja (hN3 _ _ ?_))))))))
 refine Jb [(0,.slice _ _ _),(3,.pointer _),(11,.bool _)] ⟨U,U,U,O⟩ fun σ => ?_
 refine Jt (b := _) U (fun hc11 => ?_) (fun hc11 => ?_)
 exfalso; have h9 := odt hc11; omega
 replace hc11 := odf hc11
 refine Jw (hN2 _ _ (Jb [(0,.slice _ _ _),(3,.pointer _)] ⟨U,U,O⟩ fun σ => Jg fun N4 hN4 => Jk (Jd (Jh U) U U U (Ja (hN4 _ _ (Jb [(0,.slice _ _ _),(3,.pointer _),(4,.int _ _)] ⟨U,U,U,O⟩ fun σ => Jg fun N5 hN5 => Jg fun N6 hN6 => Jk (Jd (Kl U) U U U (Jd (Ks Tryz.underlying22 U) U U U ?_))))))))
 refine Jd (Jf U) U U U (Ja (hN6 _ _ (Jb [(3,.pointer _),(4,.int _ _),(13,.slice _ _ _),(14,.int _ _),(15,.int _ _)] ⟨U,U,U,U,U,O⟩ fun σ => Kn ?_)))
 refine Mm [(4,.int _ _),(15,.int _ _)] [(3,.pointer _),(13,.slice _ _ _),(14,.int _ _)] ⟨U,U,O⟩ ⟨U,U,U,O⟩ fun σ => ?_
 refine Ml (G := Nat) (fun k => k ≤ l.length) (fun k => l.length - k) (fun k => [(4,.int .i64 (strL 2 (l.take k))),(15,.int .i64 (k : Int))]) (fun k => []) (0) ?h0 ⟨U,U,O⟩ ⟨U,U,U,O⟩ U ?round
 case h0 => exact Nat.zero_le _
 case round =>
  intro k hφ σ
  have hk : k ≤ l.length := hφ
  refine Jg fun N7 hN7 => Jk (Jd (Me U U) U U U (Ja (hN7 _ _ (Jb [(3,.pointer _),(4,.int _ _),(13,.slice _ _ _),(14,.int _ _),(15,.int _ _),(16,.bool _)] ⟨U,U,U,U,U,U,O⟩ fun σ => Jg fun N8 hN8 => ?_))))
  refine Jt (b := _) U (fun hc16 => ?_) (fun hc16 => ?_)
  replace hc16 := odt hc16
  have hk1 : k < l.length := by omega
  obtain ⟨ad,rfl,-,hca⟩ := hl.at_ hk1
  obtain ⟨ho0,ho1⟩ := strL_bd (l.take k) 2 (by decide)
  obtain ⟨hd0,hd1⟩ := ofD_bd l[k]
  have hzk := hz _ (List.getElem_mem hk1)
  refine Jw (hN8 _ _ (Jb [(3,.pointer _),(4,.int _ _),(13,.slice _ _ _),(14,.int _ _),(15,.int _ _)] ⟨U,U,U,U,U,O⟩ fun σ => Jg fun N9 hN9 => Kn (Jg fun N10 hN10 => Jk (Jd (Jf U) U U U (Jd (Jz (m := k) Tryz.underlying22 Tryz.sizeOf9 U U (by omega) (by omega) (by omega)) U U U (Jd (Jq Tryz.isAgg9 U (Ms (hca 0 _ U))) U U U (Jd (Jh U) U U U (Jd (Ul U) U U U ?_))))))))
  refine Ja (hN10 _ _ (Jb [(3,.pointer _),(4,.int _ _),(5,.int _ _),(6,.string _),(13,.slice _ _ _),(14,.int _ _),(15,.int _ _)] ⟨U,U,U,U,U,U,U,O⟩ fun σ => Jg fun N11 hN11 => Jk (Jd (Ku U) U U U ?_)))
  refine gop_bytes Tryz.underlying9 Tryz.underlying157 Tryz.underlying5 U U (fun b22 c22 hb22 => ?_)
  refine Km (Kb (vs := [.slice (some ⟨b22,0,none⟩) _ c22]) Tryz.func84 U (by kernel_rfl) U) (fun w hM => dOf_any w (some ⟨b22,0,none⟩) c22 l[k] ((brow_rdl (hM.ok _ (List.mem_of_getElem? (i := 1) U))).mono (Nat.zero_le _)) (by omega)) U U U ?_
  refine Jd (Ju (v := .tuple #[.int _ _,.agg #[_,_]]) U) U U U (Jd (Mg U U) U U U (Jd (Mw (v := .agg #[_,_]) U U) U U U ?_))
  refine Ka (cs := #[.int .i64 0,.int .i64 0]) Tryz.zeroValue33 U U (fun b8 hb8 => ?_)
  refine Jd (Jh U) U U U (Jr 2 (v := .agg #[_,_]) (cs' := #[_,_]) U U Tryz.sizeOf33 U U U U (leb U) U U (Ja (hN11 _ _ (gT [box b3 _,brow _ _,box b8 _] U (Jb [(3,.pointer _),(4,.int _ _),(5,.int _ _),(7,.int _ _),(8,.pointer _),(13,.slice _ _ _),(14,.int _ _),(15,.int _ _)] ⟨U,U,U,U,U,U,U,U,O⟩ fun σ => Jg fun N12 hN12 => Jg fun N13 hN13 => Jk (Jd (Kk (cs := [_,_]) Tryz.isAgg33 Tryz.sizeOf33 U U (Kf 2 U)) U U U (Jd (Kd (vs := []) (cells := #[.int .i64 0,.int .i64 0]) U Qh) U U U (Jd (Uk (vx := .agg #[_,_]) (vy := .agg #[_,_]) U U (fun w => eg33 _ _ _ _ _ w) (fun w => ne33 _ _ _ _ w)) U U U ?_))))))))
  refine Ja (hN13 _ _ (Jb [(3,.pointer _),(4,.int _ _),(5,.int _ _),(7,.int _ _),(8,.pointer _),(13,.slice _ _ _),(14,.int _ _),(15,.int _ _),(28,.bool _)] ⟨U,U,U,U,U,U,U,U,U,O⟩ fun σ => ?_))
  refine Jt (b := _) U (fun hc28 => ?_) (fun hc28 => ?_)
  exact absurd hc28 (by simp)
  refine Jw (hN12 _ _ (Jb [(3,.pointer _),(4,.int _ _),(7,.int _ _),(13,.slice _ _ _),(14,.int _ _),(15,.int _ _)] ⟨U,U,U,U,U,U,O⟩ fun σ => Jk (Jd (Jf U) U U U (Jd (Jf U) U U U ?_))))
  refine Km (Kb (vs := [.int _ _,.int _ _]) Tryz.func85 U (by kernel_rfl) U) (fun w hM => dPair_any w _ _ ho0 ho1 hd0 hd1) U U U ?_
  refine Jd (Jh U) U U U (Ja (hN9 _ _ (Jb [(3,.pointer _),(4,.int _ _),(13,.slice _ _ _),(14,.int _ _),(15,.int _ _)] ⟨U,U,U,U,U,O⟩ fun σ => Jk (Jd (Kr U U ⟨by omega,by omega⟩) U U U (Jd (Jf U) U U U (Ja ?_))))))
  refine Kt (k + 1) (by omega) (show k + 1 ≤ _ by omega) ⟨(congrArg (Value.int .i64) (strL_take hk1).symm),U,trivial⟩ ⟨U,U,U,O⟩ ⟨_,U⟩
  replace hc16 := odf hc16
  refine Mx ?_
  refine hN5 _ _ (Jb [(3,.pointer _),(4,.int _ _)] ⟨U,U,O⟩ fun σ => Jg fun N14 hN14 => Jk (Jd (Jf U) U U U (Jd (Kd (vs := []) (cells := #[.int .i64 0,.int .i64 0]) U Qh) U U U (Jd (Jh U) U U U (Jr 0 (v := .agg #[_,_]) (cs' := #[_,_]) U U Tryz.sizeOf33 U U U U (leb U) U U (Ja (hN14 _ _ (gT [box b3 _] U ?_))))))))
  refine Jb [(2,.int _ _),(3,.pointer _)] ⟨U,U,O⟩ fun σ => ?_
  refine Ke fun w1 hM => ?_
  refine ⟨_,res2 rfl (rt (v := .int _ _) rfl) (rc 0 (cs := [_,_]) hM rfl rfl Tryz.isAgg33 Tryz.sizeOf33 rfl),?_⟩
  exact ⟨by rw [List.take_of_length_le (by omega)]; rfl,hM.low⟩
end Go.Proofs.YtbkameioedmlkaaGreatDoor
namespace Go.Proofs
open Go.Shelf
def Tryz.lays106_ren : Go.Shelf.Ren := ⟨fun | 106 => 101 | 213 => 119 | 265 => 145 | n => n, fun | 9 => 9 | 3 => 3 | n => n, fun | n => n⟩
theorem Tryz.lays106 : Go.Proofs.Lays.n106 Tryz.prog Tryz.lays106_ren := {
  mixed := by kernel_rfl
  f106 := Tryz.func101.trans (congrArg some (by kernel_rfl))
  f213 := Tryz.func119.trans (congrArg some (by kernel_rfl))
  f265 := Tryz.func145.trans (congrArg some (by kernel_rfl))
  t3 := Tryz.underlying3
  a3 := Tryz.isAgg3
  z3 := Tryz.sizeOf3
  v3 := Tryz.zeroValue3
  t9 := Tryz.underlying9
  a9 := Tryz.isAgg9
  z9 := Tryz.sizeOf9
  v9 := Tryz.zeroValue9 }
open Go.RowKit in

theorem Tryz.strings_Compare (a b : ByteArray) (w : World) :
    Calls Tryz.prog 101 #[.string a, .string b] w fun e w' => e = .returned (.int .i64 (Lib.compareBytes a.data.toList b.data.toList)) ∧ w' = w := Any.strings_Compare Tryz.lays106 a b w
def Tryz.laysM171_ren : Go.Shelf.Ren := ⟨fun | 171 => 144 | 243 => 161 | 246 => 174 | 283 => 179 | 284 => 180 | 285 => 181 | 286 => 182 | 129 => 131 | 317 => 185 | 318 => 186 | 319 => 187 | 320 => 188 | 337 => 189 | 338 => 190 | n => n, fun | 3 => 3 | 9 => 9 | 2 => 2 | 4 => 4 | 171 => 246 | 0 => 0 | 53 => 201 | 37 => 157 | 5 => 5 | 173 => 248 | 212 => 256 | 51 => 199 | 20 => 20 | 213 => 257 | 46 => 180 | 232 => 258 | 233 => 259 | n => n, fun | 17 => 5 | 18 => 6 | 19 => 7 | n => n⟩
theorem Tryz.laysM171 : Go.Proofs.LaysM.n171 Tryz.prog Tryz.laysM171_ren := {
  mixed := by kernel_rfl
  f129 := Tryz.func131.trans (congrArg some (by kernel_rfl))
  f171 := Tryz.func144.trans (congrArg some (by kernel_rfl))
  f243 := Tryz.func161.trans (congrArg some (by kernel_rfl))
  f246 := Tryz.func174.trans (congrArg some (by kernel_rfl))
  f283 := Tryz.func179.trans (congrArg some (by kernel_rfl))
  f284 := Tryz.func180.trans (congrArg some (by kernel_rfl))
  f285 := Tryz.func181.trans (congrArg some (by kernel_rfl))
  f286 := Tryz.func182.trans (congrArg some (by kernel_rfl))
  f317 := Tryz.func185.trans (congrArg some (by kernel_rfl))
  f318 := Tryz.func186.trans (congrArg some (by kernel_rfl))
  f319 := Tryz.func187.trans (congrArg some (by kernel_rfl))
  f320 := Tryz.func188.trans (congrArg some (by kernel_rfl))
  f337 := Tryz.func189.trans (congrArg some (by kernel_rfl))
  f338 := Tryz.func190.trans (congrArg some (by kernel_rfl))
  t0 := Tryz.underlying0
  a0 := Tryz.isAgg0
  z0 := Tryz.sizeOf0
  v0 := Tryz.zeroValue0
  t2 := Tryz.underlying2
  a2 := Tryz.isAgg2
  z2 := Tryz.sizeOf2
  v2 := Tryz.zeroValue2
  t3 := Tryz.underlying3
  a3 := Tryz.isAgg3
  z3 := Tryz.sizeOf3
  v3 := Tryz.zeroValue3
  t4 := Tryz.underlying4
  a4 := Tryz.isAgg4
  z4 := Tryz.sizeOf4
  v4 := Tryz.zeroValue4
  t5 := Tryz.underlying5
  a5 := Tryz.isAgg5
  z5 := Tryz.sizeOf5
  v5 := Tryz.zeroValue5
  t9 := Tryz.underlying9
  a9 := Tryz.isAgg9
  z9 := Tryz.sizeOf9
  v9 := Tryz.zeroValue9
  t20 := Tryz.underlying20
  a20 := Tryz.isAgg20
  z20 := Tryz.sizeOf20
  v20 := Tryz.zeroValue20
  t37 := Tryz.underlying157
  a37 := Tryz.isAgg157
  z37 := Tryz.sizeOf157
  v37 := Tryz.zeroValue157
  t46 := Tryz.underlying180
  a46 := Tryz.isAgg180
  z46 := Tryz.sizeOf180
  v46 := Tryz.zeroValue180
  t51 := Tryz.underlying199
  a51 := Tryz.isAgg199
  z51 := Tryz.sizeOf199
  v51 := Tryz.zeroValue199
  t53 := Tryz.underlying201
  a53 := Tryz.isAgg201
  z53 := Tryz.sizeOf201
  v53 := Tryz.zeroValue201
  t171 := Tryz.underlying246
  a171 := Tryz.isAgg246
  z171 := Tryz.sizeOf246
  v171 := Tryz.zeroValue246
  t173 := Tryz.underlying248
  a173 := Tryz.isAgg248
  z173 := Tryz.sizeOf248
  v173 := Tryz.zeroValue248
  t212 := Tryz.underlying256
  a212 := Tryz.isAgg256
  z212 := Tryz.sizeOf256
  v212 := Tryz.zeroValue256
  t213 := Tryz.underlying257
  a213 := Tryz.isAgg257
  z213 := Tryz.sizeOf257
  t232 := Tryz.underlying258
  a232 := Tryz.isAgg258
  z232 := Tryz.sizeOf258
  v232 := Tryz.zeroValue258
  t233 := Tryz.underlying259
  a233 := Tryz.isAgg259
  z233 := Tryz.sizeOf259
  v233 := Tryz.zeroValue259
  g17 := by kernel_rfl
  g18 := by kernel_rfl
  g19 := by kernel_rfl
  i0 := by kernel_rfl
  i2 := by kernel_rfl
  i3 := by kernel_rfl
  i4 := by kernel_rfl
  i5 := by kernel_rfl
  i9 := by kernel_rfl
  i20 := by kernel_rfl
  i37 := by kernel_rfl
  i46 := by kernel_rfl
  i51 := by kernel_rfl
  i53 := by kernel_rfl
  i171 := by kernel_rfl
  i173 := by kernel_rfl
  i212 := by kernel_rfl
  i232 := by kernel_rfl
  i233 := by kernel_rfl
  m17 := by kernel_rfl
  m18 := by kernel_rfl
  m19 := by kernel_rfl }
open Go.RowKit Go.Sort Go.Lib in

theorem Tryz.strconv_Itoa (n : Int) (h0 : -9223372036854775808 ≤ n) (h1 : n ≤ 9223372036854775807) (w : World) (htab : Lib.TabIs Tryz.prog w "internal/strconv.uint64pow10" .u64 Lib.pow10Tab) :
    Calls Tryz.prog 144 #[.int .i64 n] w fun e w' => e = .returned (.string ⟨(Lib.itoa n).toArray⟩) ∧ ∃ k os, w' = grow (w.drewN k) os := Any.strconv_Itoa Tryz.laysM171 n h0 h1 w htab
def Tryz.laysC172_ren : Go.Shelf.Ren := ⟨fun | 172 => 143 | 244 => 159 | 245 => 160 | 247 => 169 | 279 => 170 | 280 => 171 | 281 => 172 | 282 => 173 | 287 => 176 | 316 => 177 | 171 => 144 | 205 => 178 | 321 => 183 | 322 => 184 | 243 => 161 | 246 => 174 | 283 => 179 | 284 => 180 | 285 => 181 | 286 => 182 | 129 => 131 | 317 => 185 | 318 => 186 | 319 => 187 | 320 => 188 | 337 => 189 | 338 => 190 | n => n, fun | 9 => 9 | 3 => 3 | 75 => 211 | 76 => 212 | 4 => 4 | 5 => 5 | 167 => 231 | 37 => 157 | 0 => 0 | 85 => 232 | 2 => 2 | 168 => 234 | 53 => 201 | 175 => 240 | 46 => 180 | 210 => 244 | 127 => 251 | 145 => 254 | 143 => 252 | 21 => 21 | 171 => 246 | 173 => 248 | 212 => 256 | 51 => 199 | 20 => 20 | 213 => 257 | 232 => 258 | 233 => 259 | 80 => 189 | n => n, fun | 15 => 3 | 16 => 4 | 17 => 5 | 18 => 6 | 19 => 7 | n => n⟩
theorem Tryz.laysC172 : Go.Proofs.LaysC.n172 Tryz.prog Tryz.laysC172_ren := {
  mixed := by kernel_rfl
  f129 := Tryz.func131.trans (congrArg some (by kernel_rfl))
  f171 := Tryz.func144.trans (congrArg some (by kernel_rfl))
  f172 := Tryz.func143.trans (congrArg some (by kernel_rfl))
  f205 := Tryz.func178.trans (congrArg some (by kernel_rfl))
  f243 := Tryz.func161.trans (congrArg some (by kernel_rfl))
  f244 := Tryz.func159.trans (congrArg some (by kernel_rfl))
  f245 := Tryz.func160.trans (congrArg some (by kernel_rfl))
  f246 := Tryz.func174.trans (congrArg some (by kernel_rfl))
  f247 := Tryz.func169.trans (congrArg some (by kernel_rfl))
  f279 := Tryz.func170.trans (congrArg some (by kernel_rfl))
  f280 := Tryz.func171.trans (congrArg some (by kernel_rfl))
  f281 := Tryz.func172.trans (congrArg some (by kernel_rfl))
  f282 := Tryz.func173.trans (congrArg some (by kernel_rfl))
  f283 := Tryz.func179.trans (congrArg some (by kernel_rfl))
  f284 := Tryz.func180.trans (congrArg some (by kernel_rfl))
  f285 := Tryz.func181.trans (congrArg some (by kernel_rfl))
  f286 := Tryz.func182.trans (congrArg some (by kernel_rfl))
  f287 := Tryz.func176.trans (congrArg some (by kernel_rfl))
  f316 := Tryz.func177.trans (congrArg some (by kernel_rfl))
  f317 := Tryz.func185.trans (congrArg some (by kernel_rfl))
  f318 := Tryz.func186.trans (congrArg some (by kernel_rfl))
  f319 := Tryz.func187.trans (congrArg some (by kernel_rfl))
  f320 := Tryz.func188.trans (congrArg some (by kernel_rfl))
  f321 := Tryz.func183.trans (congrArg some (by kernel_rfl))
  f322 := Tryz.func184.trans (congrArg some (by kernel_rfl))
  f337 := Tryz.func189.trans (congrArg some (by kernel_rfl))
  f338 := Tryz.func190.trans (congrArg some (by kernel_rfl))
  t0 := Tryz.underlying0
  a0 := Tryz.isAgg0
  z0 := Tryz.sizeOf0
  v0 := Tryz.zeroValue0
  t2 := Tryz.underlying2
  a2 := Tryz.isAgg2
  z2 := Tryz.sizeOf2
  v2 := Tryz.zeroValue2
  t3 := Tryz.underlying3
  a3 := Tryz.isAgg3
  z3 := Tryz.sizeOf3
  v3 := Tryz.zeroValue3
  t4 := Tryz.underlying4
  a4 := Tryz.isAgg4
  z4 := Tryz.sizeOf4
  v4 := Tryz.zeroValue4
  t5 := Tryz.underlying5
  a5 := Tryz.isAgg5
  z5 := Tryz.sizeOf5
  v5 := Tryz.zeroValue5
  t9 := Tryz.underlying9
  a9 := Tryz.isAgg9
  z9 := Tryz.sizeOf9
  v9 := Tryz.zeroValue9
  t20 := Tryz.underlying20
  a20 := Tryz.isAgg20
  z20 := Tryz.sizeOf20
  v20 := Tryz.zeroValue20
  t21 := Tryz.underlying21
  a21 := Tryz.isAgg21
  z21 := Tryz.sizeOf21
  v21 := Tryz.zeroValue21
  t37 := Tryz.underlying157
  a37 := Tryz.isAgg157
  z37 := Tryz.sizeOf157
  v37 := Tryz.zeroValue157
  t46 := Tryz.underlying180
  a46 := Tryz.isAgg180
  z46 := Tryz.sizeOf180
  v46 := Tryz.zeroValue180
  t51 := Tryz.underlying199
  a51 := Tryz.isAgg199
  z51 := Tryz.sizeOf199
  v51 := Tryz.zeroValue199
  t53 := Tryz.underlying201
  a53 := Tryz.isAgg201
  z53 := Tryz.sizeOf201
  v53 := Tryz.zeroValue201
  t75 := Tryz.underlying211
  a75 := Tryz.isAgg211
  z75 := Tryz.sizeOf211
  v75 := Tryz.zeroValue211
  t76 := Tryz.underlying212
  a76 := Tryz.isAgg212
  z76 := Tryz.sizeOf212
  v76 := Tryz.zeroValue212
  t85 := Tryz.underlying232
  a85 := Tryz.isAgg232
  z85 := Tryz.sizeOf232
  v85 := Tryz.zeroValue232
  t127 := Tryz.underlying251
  a127 := Tryz.isAgg251
  z127 := Tryz.sizeOf251
  v127 := Tryz.zeroValue251
  t143 := Tryz.underlying252
  a143 := Tryz.isAgg252
  z143 := Tryz.sizeOf252
  v143 := Tryz.zeroValue252
  t145 := Tryz.underlying254
  a145 := Tryz.isAgg254
  z145 := Tryz.sizeOf254
  v145 := Tryz.zeroValue254
  t167 := Tryz.underlying231
  a167 := Tryz.isAgg231
  z167 := Tryz.sizeOf231
  v167 := Tryz.zeroValue231
  t168 := Tryz.underlying234
  a168 := Tryz.isAgg234
  z168 := Tryz.sizeOf234
  v168 := Tryz.zeroValue234
  t171 := Tryz.underlying246
  a171 := Tryz.isAgg246
  z171 := Tryz.sizeOf246
  v171 := Tryz.zeroValue246
  t173 := Tryz.underlying248
  a173 := Tryz.isAgg248
  z173 := Tryz.sizeOf248
  v173 := Tryz.zeroValue248
  t175 := Tryz.underlying240
  a175 := Tryz.isAgg240
  z175 := Tryz.sizeOf240
  v175 := Tryz.zeroValue240
  t210 := Tryz.underlying244
  a210 := Tryz.isAgg244
  z210 := Tryz.sizeOf244
  v210 := Tryz.zeroValue244
  t212 := Tryz.underlying256
  a212 := Tryz.isAgg256
  z212 := Tryz.sizeOf256
  v212 := Tryz.zeroValue256
  t213 := Tryz.underlying257
  a213 := Tryz.isAgg257
  z213 := Tryz.sizeOf257
  t232 := Tryz.underlying258
  a232 := Tryz.isAgg258
  z232 := Tryz.sizeOf258
  v232 := Tryz.zeroValue258
  t233 := Tryz.underlying259
  a233 := Tryz.isAgg259
  z233 := Tryz.sizeOf259
  v233 := Tryz.zeroValue259
  g15 := by kernel_rfl
  g16 := by kernel_rfl
  g17 := by kernel_rfl
  g18 := by kernel_rfl
  g19 := by kernel_rfl
  t80 := Tryz.underlying189
  a80 := Tryz.isAgg189
  z80 := Tryz.sizeOf189
  v80 := Tryz.zeroValue189
  i0 := by kernel_rfl
  i2 := by kernel_rfl
  i3 := by kernel_rfl
  i4 := by kernel_rfl
  i5 := by kernel_rfl
  i9 := by kernel_rfl
  i20 := by kernel_rfl
  i21 := by kernel_rfl
  i37 := by kernel_rfl
  i46 := by kernel_rfl
  i51 := by kernel_rfl
  i53 := by kernel_rfl
  i75 := by kernel_rfl
  i76 := by kernel_rfl
  i80 := by kernel_rfl
  i85 := by kernel_rfl
  i127 := by kernel_rfl
  i143 := by kernel_rfl
  i145 := by kernel_rfl
  i167 := by kernel_rfl
  i168 := by kernel_rfl
  i171 := by kernel_rfl
  i173 := by kernel_rfl
  i175 := by kernel_rfl
  i210 := by kernel_rfl
  i212 := by kernel_rfl
  i232 := by kernel_rfl
  i233 := by kernel_rfl
  m15 := by kernel_rfl
  m16 := by kernel_rfl
  m17 := by kernel_rfl
  m18 := by kernel_rfl
  m19 := by kernel_rfl
  c0 := by kernel_rfl
  c2 := by kernel_rfl
  c3 := by kernel_rfl
  c4 := by kernel_rfl
  c5 := by kernel_rfl
  c9 := by kernel_rfl
  c20 := by kernel_rfl
  c21 := by kernel_rfl
  c37 := by kernel_rfl
  c46 := by kernel_rfl
  c51 := by kernel_rfl
  c53 := by kernel_rfl
  c75 := by kernel_rfl
  c76 := by kernel_rfl
  c80 := by kernel_rfl
  c85 := by kernel_rfl
  c127 := by kernel_rfl
  c143 := by kernel_rfl
  c145 := by kernel_rfl
  c167 := by kernel_rfl
  c168 := by kernel_rfl
  c171 := by kernel_rfl
  c173 := by kernel_rfl
  c175 := by kernel_rfl
  c210 := by kernel_rfl
  c212 := by kernel_rfl
  c213 := by kernel_rfl
  c232 := by kernel_rfl
  c233 := by kernel_rfl }
open Go.RowKit in

theorem Tryz.strconv_Atoi_ok (s : ByteArray) (hmax : s.size ≤ 9223372036854775806) (v : Int) (h : Lib.atoiAll s.data.toList = .ok v) (w : World) :
    Calls Tryz.prog 143 #[.string s] w fun e w' => e = .returned (.tuple #[.int .i64 v, .nilIface]) ∧ (w' = w ∨ ∃ t, w' = Lib.bytesWorld w 5 t) := Any.strconv_Atoi_ok Tryz.laysC172 s hmax v h w
open Go.RowKit in

theorem Tryz.strconv_Atoi_syntax (s : ByteArray) (hlim : s.size ≤ 281474976710656) (h : Lib.atoiAll s.data.toList = Lib.atoiAll []) (ev : Value) (w : World) (hv : w.cell? ⟨3, 0, none⟩ = some ev) (hev : ev = .nilIface ∨ ∃ te pe, ev = .iface te pe) :
    Calls Tryz.prog 143 #[.string s] w fun e w' => ∃ N, e = .returned (.tuple #[.int .i64 (0), .iface 234 (.pointer (some ⟨N, 0, none⟩))]) ∧ w.heap.size ≤ N ∧ w'.heap[N]? = some (.cells #[.string ⟨#[65, 116, 111, 105]⟩, .string s, ev] 244 (0, 0)) ∧ Below w.heap.size w w' := Any.strconv_Atoi_syntax Tryz.laysC172 s hlim h ev w hv hev
open Go.RowKit in

theorem Tryz.strconv_Atoi_range (s : ByteArray) (hlim : s.size ≤ 281474976710656) (h : Lib.atoiAll s.data.toList = .range) (ev : Value) (w : World) (hv : w.cell? ⟨4, 0, none⟩ = some ev) (hev : ev = .nilIface ∨ ∃ te pe, ev = .iface te pe) :
    Calls Tryz.prog 143 #[.string s] w fun e w' => ∃ N, e = .returned (.tuple #[.int .i64 (Lib.atoiSat s.data.toList), .iface 234 (.pointer (some ⟨N, 0, none⟩))]) ∧ w.heap.size ≤ N ∧ w'.heap[N]? = some (.cells #[.string ⟨#[65, 116, 111, 105]⟩, .string s, ev] 244 (0, 0)) ∧ Below w.heap.size w w' := Any.strconv_Atoi_range Tryz.laysC172 s hlim h ev w hv hev
def Tryz.lays190_ren : Go.Shelf.Ren := ⟨fun | 190 => 73 | 125 => 105 | 258 => 104 | 128 => 130 | 129 => 131 | 302 => 121 | 303 => 122 | 304 => 123 | 305 => 124 | 306 => 125 | 307 => 126 | 308 => 127 | 309 => 128 | 310 => 129 | 333 => 146 | 329 => 147 | 330 => 148 | 334 => 149 | 335 => 150 | 336 => 151 | 344 => 162 | n => n, fun | 31 => 22 | 9 => 9 | 3 => 3 | 46 => 180 | 0 => 0 | 51 => 199 | 53 => 201 | 4 => 4 | 183 => 193 | 182 => 192 | 131 => 102 | 5 => 5 | 218 => 215 | 222 => 219 | 228 => 223 | 229 => 224 | n => n, fun | n => n⟩
theorem Tryz.lays190 : Go.Proofs.Lays.n190 Tryz.prog Tryz.lays190_ren := {
  mixed := by kernel_rfl
  f125 := Tryz.func105.trans (congrArg some (by kernel_rfl))
  f128 := Tryz.func130.trans (congrArg some (by kernel_rfl))
  f129 := Tryz.func131.trans (congrArg some (by kernel_rfl))
  f190 := Tryz.func73.trans (congrArg some (by kernel_rfl))
  f258 := Tryz.func104.trans (congrArg some (by kernel_rfl))
  f302 := Tryz.func121.trans (congrArg some (by kernel_rfl))
  f303 := Tryz.func122.trans (congrArg some (by kernel_rfl))
  f304 := Tryz.func123.trans (congrArg some (by kernel_rfl))
  f305 := Tryz.func124.trans (congrArg some (by kernel_rfl))
  f306 := Tryz.func125.trans (congrArg some (by kernel_rfl))
  f307 := Tryz.func126.trans (congrArg some (by kernel_rfl))
  f308 := Tryz.func127.trans (congrArg some (by kernel_rfl))
  f309 := Tryz.func128.trans (congrArg some (by kernel_rfl))
  f310 := Tryz.func129.trans (congrArg some (by kernel_rfl))
  f329 := Tryz.func147.trans (congrArg some (by kernel_rfl))
  f330 := Tryz.func148.trans (congrArg some (by kernel_rfl))
  f333 := Tryz.func146.trans (congrArg some (by kernel_rfl))
  f334 := Tryz.func149.trans (congrArg some (by kernel_rfl))
  f335 := Tryz.func150.trans (congrArg some (by kernel_rfl))
  f336 := Tryz.func151.trans (congrArg some (by kernel_rfl))
  f344 := Tryz.func162.trans (congrArg some (by kernel_rfl))
  t0 := Tryz.underlying0
  a0 := Tryz.isAgg0
  z0 := Tryz.sizeOf0
  v0 := Tryz.zeroValue0
  t3 := Tryz.underlying3
  a3 := Tryz.isAgg3
  z3 := Tryz.sizeOf3
  v3 := Tryz.zeroValue3
  t4 := Tryz.underlying4
  a4 := Tryz.isAgg4
  z4 := Tryz.sizeOf4
  v4 := Tryz.zeroValue4
  t5 := Tryz.underlying5
  a5 := Tryz.isAgg5
  z5 := Tryz.sizeOf5
  v5 := Tryz.zeroValue5
  t9 := Tryz.underlying9
  a9 := Tryz.isAgg9
  z9 := Tryz.sizeOf9
  v9 := Tryz.zeroValue9
  t31 := Tryz.underlying22
  a31 := Tryz.isAgg22
  z31 := Tryz.sizeOf22
  v31 := Tryz.zeroValue22
  t46 := Tryz.underlying180
  a46 := Tryz.isAgg180
  z46 := Tryz.sizeOf180
  v46 := Tryz.zeroValue180
  t51 := Tryz.underlying199
  a51 := Tryz.isAgg199
  z51 := Tryz.sizeOf199
  v51 := Tryz.zeroValue199
  t53 := Tryz.underlying201
  a53 := Tryz.isAgg201
  z53 := Tryz.sizeOf201
  v53 := Tryz.zeroValue201
  t131 := Tryz.underlying102
  a131 := Tryz.isAgg102
  z131 := Tryz.sizeOf102
  v131 := Tryz.zeroValue102
  t182 := Tryz.underlying192
  a182 := Tryz.isAgg192
  z182 := Tryz.sizeOf192
  v182 := Tryz.zeroValue192
  t183 := Tryz.underlying193
  a183 := Tryz.isAgg193
  z183 := Tryz.sizeOf193
  v183 := Tryz.zeroValue193
  t218 := Tryz.underlying215
  a218 := Tryz.isAgg215
  z218 := Tryz.sizeOf215
  v218 := Tryz.zeroValue215
  t222 := Tryz.underlying219
  a222 := Tryz.isAgg219
  z222 := Tryz.sizeOf219
  v222 := Tryz.zeroValue219
  t228 := Tryz.underlying223
  a228 := Tryz.isAgg223
  z228 := Tryz.sizeOf223
  v228 := Tryz.zeroValue223
  t229 := Tryz.underlying224
  a229 := Tryz.isAgg224
  z229 := Tryz.sizeOf224
  v229 := Tryz.zeroValue224 }
open Go.Sort Go.RowKit in
theorem Tryz.slices_Sort_string (blk off cap : Nat) (ss : List (List UInt8)) (w : World) (hH : Holds encStr w blk off ss.toArray) (hblk : blk < w.heap.size) (hsz : ss.length < 4611686018427387904) :
    Calls Tryz.prog 73 #[.slice (some ⟨blk, off, none⟩) ss.length cap] w fun e w' =>
      e = .returned (.tuple #[]) ∧ ∃ n os, w' = grow (putRow encStr (Sort.ahead w n) blk off (ss.mergeSort fun x y => decide (x ≤ y)).toArray) os := Any.slices_Sort_string Tryz.lays190 blk off cap ss w hH hblk hsz
def Tryz.lays99_ren : Go.Shelf.Ren := ⟨fun | 99 => 138 | 206 => 157 | n => n, fun | 9 => 9 | 4 => 4 | 3 => 3 | n => n, fun | n => n⟩
theorem Tryz.lays99 : Go.Proofs.Lays.n99 Tryz.prog Tryz.lays99_ren := {
  mixed := by kernel_rfl
  f99 := Tryz.func138.trans (congrArg some (by kernel_rfl))
  f206 := Tryz.func157.trans (congrArg some (by kernel_rfl))
  t3 := Tryz.underlying3
  a3 := Tryz.isAgg3
  z3 := Tryz.sizeOf3
  v3 := Tryz.zeroValue3
  t4 := Tryz.underlying4
  a4 := Tryz.isAgg4
  z4 := Tryz.sizeOf4
  v4 := Tryz.zeroValue4
  t9 := Tryz.underlying9
  a9 := Tryz.isAgg9
  z9 := Tryz.sizeOf9
  v9 := Tryz.zeroValue9 }
open Go.RowKit Go.Lib in

theorem Tryz.strings_HasPrefix (s p : ByteArray) (w : World) :
    Calls Tryz.prog 138 #[.string s, .string p] w fun e w' => e = .returned (.bool (Lib.hasPrefix s.data.toList p.data.toList)) ∧ w' = w := Any.strings_HasPrefix Tryz.lays99 s p w
def Tryz.lays194_ren : Go.Shelf.Ren := ⟨fun | 194 => 74 | n => n, fun | 31 => 22 | 9 => 9 | 3 => 3 | 4 => 4 | 0 => 0 | n => n, fun | n => n⟩
theorem Tryz.lays194 : Go.Proofs.Lays.n194 Tryz.prog Tryz.lays194_ren := {
  mixed := by kernel_rfl
  f194 := Tryz.func74.trans (congrArg some (by kernel_rfl))
  t0 := Tryz.underlying0
  a0 := Tryz.isAgg0
  z0 := Tryz.sizeOf0
  v0 := Tryz.zeroValue0
  t3 := Tryz.underlying3
  a3 := Tryz.isAgg3
  z3 := Tryz.sizeOf3
  v3 := Tryz.zeroValue3
  t4 := Tryz.underlying4
  a4 := Tryz.isAgg4
  z4 := Tryz.sizeOf4
  v4 := Tryz.zeroValue4
  t9 := Tryz.underlying9
  a9 := Tryz.isAgg9
  z9 := Tryz.sizeOf9
  v9 := Tryz.zeroValue9
  t31 := Tryz.underlying22
  a31 := Tryz.isAgg22
  z31 := Tryz.sizeOf22
  v31 := Tryz.zeroValue22 }
open Go.RowKit Go.Lib Go.Sort in

theorem Tryz.slices_Compact_string (blk off cap : Nat) (zs : List (List UInt8)) (w : World) (hH : Holds encStr w blk off zs.toArray) (hsz : zs.length ≤ 9223372036854775807) (hcap : zs.length ≤ cap) :
    Calls Tryz.prog 74 #[.slice (some ⟨blk, off, none⟩) zs.length cap] w fun e w' => e = .returned (.slice (some ⟨blk, off, none⟩) (Lib.compact zs).length cap) ∧ ∃ q, w' = putRow encStr (Sort.ahead w q) blk off (Lib.compact zs ++ List.replicate (zs.length - (Lib.compact zs).length) []).toArray := Any.slices_Compact_string Tryz.lays194 blk off cap zs w hH hsz hcap
open Go.RowKit Go.Lib Go.Sort in

theorem Tryz.slices_Compact_string_empty (a : Option Addr) (cap : Nat) (w : World) :
    Calls Tryz.prog 74 #[.slice a 0 cap] w fun e w' => e = .returned (.slice a 0 cap) ∧ w' = w := Any.slices_Compact_string_empty Tryz.lays194 a cap w
open Go.RowKit Go.Sort in

theorem Tryz.slices_Sort_string_none (p : Option Addr) (cap : Nat) (w : World) :
    Calls Tryz.prog 73 #[.slice p 0 cap] w fun e w' => e = .returned (.tuple #[]) ∧ w' = w := Any.slices_Sort_string_none Tryz.lays190 p cap w
end Go.Proofs
namespace Go.Proofs.YtbkameioedmlkaaGreatDoor
open Go.RowKit Go.Cf
set_option maxRecDepth 10000
theorem Wr (a : Addr) (w : World) : (Instr.fieldAt 85 (.pointer (some a)) 0).run Tryz.prog w = .ok (.pointer (some (a.add 0))) w := by kernel_rfl
set_option maxHeartbeats 2000000 in
theorem Wz (w : World) (a b : ByteArray) (ha : a.size ≤ 1000000) (hb : b.size ≤ 1000000) : Calls Tryz.prog 111 #[.string a, .string b] w fun e w' => e = .returned (.bool (relP a b)) ∧ Below w.heap.size w w' := by
 refine Kz Tryz.func111 U Tryz.ntmps111 (leb U) ?_
 refine Jb [(0,.string _),(1,.string _)] ⟨U,U,O⟩ fun σ => Jg fun N1 hN1 => Jk (Jd (Ji U) U U U (Ja (hN1 _ _ (Jb [(0,.string _),(1,.string _)] ⟨U,U,O⟩ fun σ => Jg fun N2 hN2 => Jk (Jd (Ku U) U U U (Jd (Ku U) U U U (Jd (Ur U U) U U U (Jd (Jn U) U U U ?_))))))))
 refine Kh (want := false) U U U U U U (fun hg8 => ?_) (fun hg8 => ?_)
 have hg8d := hg8
 have hab : decide (a = b) = false := decide_eq_false (sb_ne_f hg8d)
 refine Jd (Je (Ku U)) U U U (Js U U U U hg8 (Jd (Je (Ku U)) U U U (Js U U U U hg8 (Jd (Je (y_cat U U (by show b.size + 1 ≤ _; omega))) U U U (Js U U U U hg8 ?_)))))
 refine Km (Kb (vs := [.string _,.string _]) Tryz.func138 U (by kernel_rfl) U) (fun w hM => (Tryz.strings_HasPrefix _ _ w).mono fun _ _ ⟨h1,h2⟩ => ⟨h1,by subst h2; exact Below.refl _ _⟩) U U U ?_
 refine Jd (Jp U hg8 U) U U U (Jd (Jn U) U U U ?_)
 refine Kh (want := false) U U U U U U (fun hg14 => ?_) (fun hg14 => ?_)
 have hg14d := hg14
 have hR : relP a b = hasP b (a ++ slash) := by rw [relP,hab,show hasP a (b ++ slash) = false from hg14d]; rfl
 refine Jd (Je (Ku U)) U U U (Js U U U U hg14 (Jd (Je (Ku U)) U U U (Js U U U U hg14 (Jd (Je (y_cat U U (by show a.size + 1 ≤ _; omega))) U U U (Js U U U U hg14 ?_)))))
 refine Km (Kb (vs := [.string _,.string _]) Tryz.func138 U (by kernel_rfl) U) (fun w hM => (Tryz.strings_HasPrefix _ _ w).mono fun _ _ ⟨h1,h2⟩ => ⟨h1,by subst h2; exact Below.refl _ _⟩) U U U ?_
 refine Jd (Jp U hg14 U) U U U (Jd (Ji U) U U U (Ja (hN2 _ _ (Jb [(4,.bool _)] ⟨U,O⟩ fun σ => ?_))))
 refine Ke fun w1 hM => ?_
 refine ⟨_,res1 rfl (rt (v := .bool _) rfl),?_⟩
 exact ⟨congrArg (fun b => Ending.returned (Value.bool b)) hR.symm,hM.low⟩
 have hg14d := hg14
 have hR : relP a b = true := by rw [relP,hab,show hasP a (b ++ slash) = true from hg14d]; rfl
 refine Jj U U U U hg14 U U (Jj U U U U hg14 U U (Jj U U U U hg14 U U (Jd (Jo U hg14 U) U U U (Jd (Ji U) U U U (Ja (hN2 _ _ (Jb [(4,.bool _)] ⟨U,O⟩ fun σ => ?_)))))))
 refine Ke fun w1 hM => ?_
 refine ⟨_,res1 rfl (rt (v := .bool _) rfl),?_⟩
 exact ⟨congrArg (fun b => Ending.returned (Value.bool b)) hR.symm,hM.low⟩
 have hg8d := hg8
 have hR : relP a b = true := by rw [relP,decide_eq_true (Yv hg8d)]; rfl
 refine Jj U U U U hg8 U U (Jj U U U U hg8 U U (Jj U U U U hg8 U U (Jd (Jo U hg8 U) U U U (Jd (Jn U) U U U (Jj U U U U U U U (Jj U U U U U U U (Jj U U U U U U U (Jj U U U U U U U ?_))))))))
 refine Jd (Jo U U U) U U U (Jd (Ji U) U U U (Ja (hN2 _ _ (Jb [(4,.bool _)] ⟨U,O⟩ fun σ => ?_))))
 refine Ke fun w1 hM => ?_
 refine ⟨_,res1 rfl (rt (v := .bool _) rfl),?_⟩
 exact ⟨congrArg (fun b => Ending.returned (Value.bool b)) hR.symm,hM.low⟩
set_option maxHeartbeats 2000000 in
theorem KZ (w : World) (A : Option Addr) (n c : Nat) (fs : List FileC) (hR : Rdl w 0 2 fileCells A fs) (hnl : n = fs.length) (hn : fs.length ≤ 1000000) (path : ByteArray) (ex : Int) (hp : path.size ≤ 1000000) (hq : ∀ f ∈ fs, f.pl.path.size ≤ 1000000) : Calls Tryz.prog 83 #[.slice A n c, .string path, .int .i64 ex] w fun e w' => e = .returned (.bool (clashF path ex 0 (fpl fs))) ∧ Below w.heap.size w w' := by
 subst hnl
 refine Kz Tryz.func83 U Tryz.ntmps83 (leb U) ?_
 refine Jb [(0,.slice _ _ _),(1,.string _),(2,.int _ _)] ⟨U,U,U,O⟩ fun σ => Jg fun N1 hN1 => Jk (Jd (Ji U) U U U (Ja (hN1 _ _ (Jb [(0,.slice _ _ _),(1,.string _),(2,.int _ _)] ⟨U,U,U,O⟩ fun σ => Jg fun N2 hN2 => Jg fun N3 hN3 => Jk (Jd (Kl U) U U U (Jd (Ks Tryz.underlying59 U) U U U (Jd (Jf U) U U U (Ja ?_))))))))
 refine hN3 _ _ (Jb [(1,.string _),(2,.int _ _),(9,.slice _ _ _),(10,.int _ _),(11,.int _ _)] ⟨U,U,U,U,U,O⟩ fun σ => Kn ?_)
 refine Mm [(11,.int _ _)] [(1,.string _),(2,.int _ _),(9,.slice _ _ _),(10,.int _ _)] ⟨U,O⟩ ⟨U,U,U,U,O⟩ fun σ => ?_
 refine Ml (G := Nat) (fun k => k ≤ fs.length ∧ ∀ j (h : j < fs.length),j < k → ((0 + j : Nat) : Int) ≠ ex → relP fs[j].pl.path path = false) (fun k => fs.length - k) (fun k => [(11,.int .i64 (k : Int))]) (fun k => []) (0) ?h0 ⟨U,O⟩ ⟨U,U,U,U,O⟩ U ?round
 case h0 => exact ⟨Nat.zero_le _,fun _ _ h => absurd h (Nat.not_lt_zero _)⟩
 case round =>
  intro k hφ σ
  obtain ⟨hk,hz⟩ := hφ
  refine Jg fun N4 hN4 => Jk (Jd (Me U U) U U U (Ja (hN4 _ _ (Jb [(1,.string _),(2,.int _ _),(9,.slice _ _ _),(10,.int _ _),(11,.int _ _),(12,.bool _)] ⟨U,U,U,U,U,U,O⟩ fun σ => Jg fun N5 hN5 => ?_))))
  refine Jt (b := _) U (fun hc12 => ?_) (fun hc12 => ?_)
  replace hc12 := odt hc12
  have hk1 : k < fs.length := by omega
  obtain ⟨ad,rfl,-,hca⟩ := hR.at_ hk1
  refine Jw (hN5 _ _ (Jb [(1,.string _),(2,.int _ _),(9,.slice _ _ _),(10,.int _ _),(11,.int _ _)] ⟨U,U,U,U,U,O⟩ fun σ => Jg fun N6 hN6 => Kn (Jg fun N7 hN7 => Jk (Jd (Jf U) U U U (Jd (Jz (m := k) Tryz.underlying59 Tryz.sizeOf85 U U (by omega) (by omega) (by omega)) U U U (Jd (Kk (cs := [_,_]) Tryz.isAgg85 Tryz.sizeOf85 U U (Mv hca)) U U U ?_))))))
  refine Ka (cs := #[.string .empty,.slice none 0 0]) Tryz.zeroValue85 U U (fun b8 hb8 => ?_)
  refine Jd (Jh U) U U U (Jr 0 (v := .agg #[_,_]) (cs' := #[_,_]) U U Tryz.sizeOf85 U U U U (leb U) U U (Ja (hN7 _ _ (gT [box b8 _] U (Jb [(1,.string _),(2,.int _ _),(7,.int _ _),(8,.pointer _),(9,.slice _ _ _),(10,.int _ _),(11,.int _ _)] ⟨U,U,U,U,U,U,U,O⟩ fun σ => Jg fun N8 hN8 => Jk (Jd (Jf U) U U U (Jd (Jf U) U U U (Jd (Uj U U) U U U ?_))))))))
  refine Jd (Jn U) U U U ?_
  refine Kh (want := true) U U U U U U (fun hg19 => ?_) (fun hg19 => ?_)
  have hg19d := odt hg19
  refine Jd (Je (Jc Wr U)) U U U (Js U U U U hg19 (Jd (Je (Jq Tryz.isAgg9 U (Jm 0 U U))) U U U (Js U U U U hg19 (Jd (Je (Ku U)) U U U (Js U U U U hg19 ?_)))))
  refine Km (Kb (vs := [.string _,.string _]) Tryz.func111 U (by kernel_rfl) U) (fun w hM => Wz w _ _ (hq _ (List.getElem_mem hk1)) hp) U U U ?_
  refine Jd (Jo U hg19 U) U U U (Ja (hN8 _ _ (Jb [(1,.string _),(2,.int _ _),(9,.slice _ _ _),(10,.int _ _),(11,.int _ _),(24,.bool _)] ⟨U,U,U,U,U,U,O⟩ fun σ => ?_)))
  refine Jt (b := _) U (fun hc24 => ?_) (fun hc24 => ?_)
  refine Jg fun N9 hN9 => Jk (Jd (Ji U) U U U (Ja (hN9 _ _ (Jb [(6,.bool _)] ⟨U,O⟩ fun σ => ?_))))
  refine Ke fun w1 hM => ?_
  refine ⟨_,res1 rfl (rt (v := .bool _) rfl),?_⟩
  exact ⟨by rw [UY (l := fpl fs) k (by simpa using hk1) (by omega) (by rw [List.getElem_map]; exact hc24)],hM.low⟩
  have hno2 : ((0 + k : Nat) : Int) ≠ ex → relP fs[k].pl.path path = false := by first | exact hno | exact fun _ => hc24
  refine Jw (hN6 _ _ (Jb [(1,.string _),(2,.int _ _),(9,.slice _ _ _),(10,.int _ _),(11,.int _ _)] ⟨U,U,U,U,U,O⟩ fun σ => Jk (Jd (Kr U U ⟨by omega,by omega⟩) U U U (Jd (Jf U) U U U (Ja ?_)))))
  refine Kt (k + 1) (by omega) (⟨by omega,fun j h hj hne => by rcases Nat.lt_succ_iff_lt_or_eq.1 hj with h1 | rfl; exact hz j h h1 hne; exact hno2 hne⟩) ⟨U,O⟩ ⟨U,U,U,U,O⟩ ⟨_,U⟩
  have hg19d := Decidable.not_not.1 (odf hg19)
  have hno : ((0 + k : Nat) : Int) ≠ ex → relP fs[k].pl.path path = false := fun h9 => by exfalso; omega
  refine Jj U U U U hg19 U U (Jj U U U U hg19 U U (Jj U U U U hg19 U U (Jd (Jp U hg19 U) U U U (Ja (hN8 _ _ (Jb [(1,.string _),(2,.int _ _),(9,.slice _ _ _),(10,.int _ _),(11,.int _ _),(24,.bool _)] ⟨U,U,U,U,U,U,O⟩ fun σ => ?_))))))
  refine Jt (b := _) U (fun hc24 => ?_) (fun hc24 => ?_)
  cases hc24
  have hno2 : ((0 + k : Nat) : Int) ≠ ex → relP fs[k].pl.path path = false := by first | exact hno | exact fun _ => hc24
  refine Jw (hN6 _ _ (Jb [(1,.string _),(2,.int _ _),(9,.slice _ _ _),(10,.int _ _),(11,.int _ _)] ⟨U,U,U,U,U,O⟩ fun σ => Jk (Jd (Kr U U ⟨by omega,by omega⟩) U U U (Jd (Jf U) U U U (Ja ?_)))))
  refine Kt (k + 1) (by omega) (⟨by omega,fun j h hj hne => by rcases Nat.lt_succ_iff_lt_or_eq.1 hj with h1 | rfl; exact hz j h h1 hne; exact hno2 hne⟩) ⟨U,O⟩ ⟨U,U,U,U,O⟩ ⟨_,U⟩
  replace hc12 := odf hc12
  refine Mx ?_
  refine hN2 _ _ (Jb [] trivial fun σ => Jg fun N10 hN10 => Jk (Jd (Ji U) U U U (Ja (hN10 _ _ (Jb [(6,.bool _)] ⟨U,O⟩ fun σ => ?_)))))
  refine Ke fun w1 hM => ?_
  refine ⟨_,res1 rfl (rt (v := .bool _) rfl),?_⟩
  exact ⟨by rw [clashF_no (l := fpl fs) (fun j hj hne => by rw [List.getElem_map]; exact hz j (by simpa using hj) (by simp at hj; omega) hne)],hM.low⟩
set_option maxHeartbeats 1000000 in
theorem KK (w : World) (f : FileC) (path : ByteArray) : Calls Tryz.prog 100 #[.agg #[.string f.pl.path, .slice f.A f.pl.lines.length f.c], .string path] w fun e w' => e = .returned (.int .i64 (cmpS f.pl.path path)) ∧ Below w.heap.size w w' := by
 refine Kz Tryz.func100 U Tryz.ntmps100 (leb U) ?_
 refine Jb [(0,.agg #[_,_]),(1,.string _)] ⟨U,U,O⟩ fun σ => Jg fun N1 hN1 => Jk ?_
 refine Mt (v := .agg #[_,_]) (cs := #[_,_]) U U U (fun b2 hb2 => ?_)
 refine Jd (Jh U) U U U (Ja (hN1 _ _ (gT [box b2 _] U (Jb [(1,.string _),(2,.pointer _)] ⟨U,U,O⟩ fun σ => Jg fun N2 hN2 => Jk (Jd (Jc Wr U) U U U (Jd (Jq Tryz.isAgg9 U (Jm 0 U U)) U U U (Jd (Ku U) U U U ?_)))))))
 refine Km (Kb (vs := [.string _,.string _]) Tryz.func101 U (by kernel_rfl) U) (fun w hM => (Tryz.strings_Compare _ _ w).mono fun _ _ ⟨h1,h2⟩ => ⟨h1,by subst h2; exact Below.refl _ _⟩) U U U ?_
 refine Jd (Jh U) U U U (Ja (hN2 _ _ (Jb [(4,.int _ _)] ⟨U,O⟩ fun σ => ?_)))
 refine Ke fun w1 hM => ?_
 refine ⟨_,res1 rfl (rt (v := .int _ _) rfl),?_⟩
 exact ⟨rfl,hM.low⟩
end Go.Proofs.YtbkameioedmlkaaGreatDoor
namespace Go.Proofs.YtbkameioedmlkaaGreatDoor
open Go.RowKit Go.Cf
set_option maxRecDepth 10000
set_option maxHeartbeats 4000000 in
theorem bsf_any (w : World) (A : Option Addr) (c : Nat) (fs : List FileC) (hR : TreeR w 0 A c fs) (v : VTree (fpl fs)) (path : ByteArray) : Calls Tryz.prog 99 #[.slice A fs.length c, .string path, .func (.func 100) #[] #[]] w fun e w' => ∃ (k : Nat) (b : Bool), e = .returned (.tuple #[.int .i64 (k : Int), .bool b]) ∧ Below w.heap.size w w' ∧ (b = true → ∃ h : k < fs.length, fs[k].pl.path = path) ∧ (b = false → ∀ f ∈ fs, f.pl.path ≠ path) := by
 have hsl := hR.sb.len
 have hsm := hR.sb.max
 have hmx : maxLen = 9223372036854775807 := rfl
 have hlen : fs.length ≤ 24 := by have h9 := v.len; simpa using h9
 refine Kz Tryz.func99 U Tryz.ntmps99 (leb U) ?_
 refine Jb [(0,.slice _ _ _),(1,.string _),(2,.func (.func 100) #[] #[])] ⟨U,U,U,O⟩ fun σ => Jg fun N1 hN1 => Jk (Jd (Jh U) U U U (Jd (Ji U) U U U (Ja (hN1 _ _ (Jb [(0,.slice _ _ _),(1,.string _),(2,.func (.func 100) #[] #[])] ⟨U,U,U,O⟩ fun σ => Jg fun N2 hN2 => Jk (Jd (Kl U) U U U (Jd (Ks Tryz.underlying59 U) U U U (Jd (Jh U) U U U ?_))))))))
 refine Ja (hN2 _ _ (Jb [(0,.slice _ _ _),(1,.string _),(2,.func (.func 100) #[] #[]),(8,.int _ _)] ⟨U,U,U,U,O⟩ fun σ => Jg fun N3 hN3 => Jk (Jd (Jf U) U U U (Jd (Jh U) U U U (Jd (Jh U) U U U (Ja (hN3 _ _ (Jb [(0,.slice _ _ _),(1,.string _),(2,.func (.func 100) #[] #[]),(8,.int _ _),(9,.int _ _),(10,.int _ _)] ⟨U,U,U,U,U,U,O⟩ fun σ => ?_))))))))
 refine Jg fun N4 hN4 => Kn ?_
 refine Mm [(9,.int _ _),(10,.int _ _)] [(0,.slice _ _ _),(1,.string _),(2,.func (.func 100) #[] #[]),(8,.int _ _)] ⟨U,U,O⟩ ⟨U,U,U,U,O⟩ fun σ => ?_
 refine Ml (G := Nat × Nat) (fun (i,j) => i ≤ j ∧ j ≤ fs.length ∧ (∀ m (h : m < fs.length),m < i → ltS fs[m].pl.path path) ∧ (∀ m (h : m < fs.length),j ≤ m → ¬ ltS fs[m].pl.path path)) (fun (i,j) => j - i) (fun (i,j) => [(9,.int .i64 (i : Int)),(10,.int .i64 (j : Int))]) (fun (i,j) => []) ((0,fs.length)) ?h0 ⟨U,U,O⟩ ⟨U,U,U,U,O⟩ U ?round
 case h0 => exact ⟨Nat.zero_le _,Nat.le_refl _,fun _ _ h => absurd h (Nat.not_lt_zero _),fun m h h9 => absurd h (by omega)⟩
 case round =>
  rintro ⟨i,j⟩ hφ σ
  obtain ⟨hij,hj,hlo,hhi⟩ : i ≤ j ∧ j ≤ fs.length ∧ (∀ m (h : m < fs.length),m < i → ltS fs[m].pl.path path) ∧ (∀ m (h : m < fs.length),j ≤ m → ¬ ltS fs[m].pl.path path) := hφ
  refine Jg fun N5 hN5 => Jg fun N6 hN6 => Jk (Jd (Jf U) U U U (Jd (Jf U) U U U (Jd (Me U U) U U U (Ja (hN6 _ _ (Jb [(0,.slice _ _ _),(1,.string _),(2,.func (.func 100) #[] #[]),(8,.int _ _),(9,.int _ _),(10,.int _ _),(17,.bool _)] ⟨U,U,U,U,U,U,U,O⟩ fun σ => ?_))))))
  refine Jt (b := _) U (fun hc17 => ?_) (fun hc17 => ?_)
  replace hc17 := odt hc17
  have hh : (i + j) / 2 < fs.length := by omega
  obtain ⟨ad,rfl,-,hca⟩ := hR.rd.at_ hh
  refine Jw (hN5 _ _ (Jb [(0,.slice _ _ _),(1,.string _),(2,.func (.func 100) #[] #[]),(8,.int _ _),(9,.int _ _),(10,.int _ _)] ⟨U,U,U,U,U,U,O⟩ fun σ => Kn (Jg fun N7 hN7 => Jk (Jd (Jf U) U U U (Jd (Jf U) U U U (Jd (Kr U U ⟨by omega,by omega⟩) U U U (Jd (y_toU (by kernel_rfl) Tryz.underlying180 U (by omega) (by omega)) U U U (Jd (y_shrU U U) U U U ?_))))))))
  refine Jd (y_ofU (by kernel_rfl) Tryz.underlying3 U (by omega) (by omega)) U U U (Jd (Jh U) U U U (Ja (hN7 _ _ (Jb [(0,.slice _ _ _),(1,.string _),(2,.func (.func 100) #[] #[]),(8,.int _ _),(9,.int _ _),(10,.int _ _),(11,.int _ _)] ⟨U,U,U,U,U,U,U,O⟩ fun σ => Jg fun N8 hN8 => Jk (Jd (Ju (v := .func (.func 100) #[] #[]) U) U U U (Jd (Kl U) U U U (Jd (Jf U) U U U (Jd (Jz (m := (i + j) / 2) Tryz.underlying59 Tryz.sizeOf85 U U (by omega) (by omega) (by omega)) U U U ?_))))))))
  refine Jd (Kk (cs := [_,_]) Tryz.isAgg85 Tryz.sizeOf85 U U (Mv hca)) U U U (Jd (Ku U) U U U ?_)
  refine Km (Wx (vs := [.agg #[_,_],.string _]) (cs := []) U Tryz.func100 U (by kernel_rfl) U) (fun w hM => by have hc := KK w fs[(i + j) / 2] path; exact hc) U U U ?_
  refine Jd (Me U U) U U U (Ja (hN8 _ _ (Jb [(0,.slice _ _ _),(1,.string _),(2,.func (.func 100) #[] #[]),(8,.int _ _),(9,.int _ _),(10,.int _ _),(11,.int _ _),(31,.bool _)] ⟨U,U,U,U,U,U,U,U,O⟩ fun σ => ?_)))
  refine Jt (b := _) U (fun hc31 => ?_) (fun hc31 => ?_)
  replace hc31 := odt hc31
  have hlt := cmpS_lt.1 hc31
  have hle2 := bs_left v hh hlt
  refine Jk (Jd (Jf U) U U U (Jd (Kr U U ⟨by omega,by omega⟩) U U U (Jd (Jh U) U U U (Ja ?_))))
  refine Kt (((i + j) / 2 + 1,j)) (by show j - ((i + j) / 2 + 1) < j - i; omega) (⟨by show (i + j) / 2 + 1 ≤ j; omega,hj,fun m h h9 => hle2 m h (by omega),hhi⟩) ⟨(by first | rfl | exact congrArg (Value.int .i64) (by omega)),(by first | rfl | exact congrArg (Value.int .i64) (by omega)),trivial⟩ ⟨U,U,U,U,O⟩ ⟨_,U⟩
  replace hc31 := odf hc31
  have hge := fun h9 => hc31 (cmpS_lt.2 h9)
  have hge2 := bs_right v hh hge
  refine Jk (Jd (Jf U) U U U (Jd (Jh U) U U U (Ja ?_)))
  refine Kt ((i,(i + j) / 2)) (by show (i + j) / 2 - i < j - i; omega) (⟨by show i ≤ (i + j) / 2; omega,by show (i + j) / 2 ≤ fs.length; omega,hlo,hge2⟩) ⟨(by first | rfl | exact congrArg (Value.int .i64) (by omega)),(by first | rfl | exact congrArg (Value.int .i64) (by omega)),trivial⟩ ⟨U,U,U,U,O⟩ ⟨_,U⟩
  replace hc17 := odf hc17
  refine Mx ?_
  refine hN4 _ _ (Jb [(0,.slice _ _ _),(1,.string _),(2,.func (.func 100) #[] #[]),(8,.int _ _),(9,.int _ _)] ⟨U,U,U,U,U,O⟩ fun σ => Jg fun N9 hN9 => Jk (Jd (Jf U) U U U (Jd (Jf U) U U U (Jd (Jf U) U U U (Jd (Me U U) U U U (Jd (Jn U) U U U ?_))))))
  refine Kh (want := true) U U U U U U (fun hg39 => ?_) (fun hg39 => ?_)
  have hg39d := odt hg39
  have hi : i < fs.length := by omega
  obtain ⟨ad,rfl,-,hcb⟩ := hR.rd.at_ hi
  refine Jd (Je (Ju (v := .func (.func 100) #[] #[]) U)) U U U (Js U U U U hg39 (Jd (Je (Kl U)) U U U (Js U U U U hg39 (Jd (Je (Jf U)) U U U (Js U U U U hg39 (Jd (Je (Jz (m := i) Tryz.underlying59 Tryz.sizeOf85 U U (by omega) (by omega) (by omega))) U U U (Js U U U U hg39 (Jd (Je (Kk (cs := [_,_]) Tryz.isAgg85 Tryz.sizeOf85 U U (Mv hcb))) U U U ?_))))))))
  refine Js U U U U hg39 (Jd (Je (Ku U)) U U U (Js U U U U hg39 ?_))
  refine Km (Wx (vs := [.agg #[_,_],.string _]) (cs := []) U Tryz.func100 U (by kernel_rfl) U) (fun w hM => by have hc := KK w fs[i] path; exact hc) U U U ?_
  refine Js U U U U hg39 (Jd (Je (Mc U U)) U U U (Jd (Jo U hg39 U) U U U (Jd (Jh U) U U U (Jd (Ji U) U U U (Ja (hN9 _ _ (Jb [(6,.int _ _),(7,.bool _)] ⟨U,U,O⟩ fun σ => ?_)))))))
  refine Ke fun w1 hM => ?_
  refine ⟨_,res2 rfl (rt (v := .int _ _) rfl) (rt (v := .bool _) rfl),?_⟩
  have hje : j = i := by omega
  subst hje
  first
    | exact ⟨j,decide (cmpS fs[j].pl.path path = 0),rfl,hM.low,fun h => ⟨hi,KY.1 (odt h)⟩,fun h f hf => bs_none v hlo (fun m h8 h9 => hhi m h8 h9) (fun _ h9 => odf h (KY.2 h9)) hf⟩
    | exact ⟨j,false,rfl,hM.low,(fun h => by cases h),fun _ f hf => bs_none v hlo (fun m h8 h9 => hhi m h8 h9) (fun h9 _ => absurd h9 (by omega)) hf⟩
  have hg39d := odf hg39
  refine Jj U U U U hg39 U U (Jj U U U U hg39 U U (Jj U U U U hg39 U U (Jj U U U U hg39 U U (Jj U U U U hg39 U U (Jj U U U U hg39 U U (Jj U U U U hg39 U U (Jd (Jp U hg39 U) U U U (Jd (Jh U) U U U ?_))))))))
  refine Jd (Ji U) U U U (Ja (hN9 _ _ (Jb [(6,.int _ _),(7,.bool _)] ⟨U,U,O⟩ fun σ => ?_)))
  refine Ke fun w1 hM => ?_
  refine ⟨_,res2 rfl (rt (v := .int _ _) rfl) (rt (v := .bool _) rfl),?_⟩
  have hje : j = i := by omega
  subst hje
  first
    | exact ⟨j,decide (cmpS fs[j].pl.path path = 0),rfl,hM.low,fun h => ⟨hi,KY.1 (odt h)⟩,fun h f hf => bs_none v hlo (fun m h8 h9 => hhi m h8 h9) (fun _ h9 => odf h (KY.2 h9)) hf⟩
    | exact ⟨j,false,rfl,hM.low,(fun h => by cases h),fun _ f hf => bs_none v hlo (fun m h8 h9 => hhi m h8 h9) (fun h9 _ => absurd h9 (by omega)) hf⟩
set_option maxHeartbeats 2000000 in
theorem Yp (w : World) (A : Option Addr) (c : Nat) (fs : List FileC) (hR : TreeR w 0 A c fs) (v : VTree (fpl fs)) (path : ByteArray) : Calls Tryz.prog 69 #[.slice A fs.length c, .string path] w fun e w' => ∃ (k : Nat) (b : Bool), e = .returned (.tuple #[.int .i64 (k : Int), .bool b]) ∧ Below w.heap.size w w' ∧ (b = true → ∃ h : k < fs.length, fs[k].pl.path = path) ∧ (b = false → ∀ f ∈ fs, f.pl.path ≠ path) := by
 refine Kz Tryz.func69 U Tryz.ntmps69 (leb U) ?_
 refine Jb [(0,.slice _ _ _),(1,.string _)] ⟨U,U,O⟩ fun σ => Jg fun N1 hN1 => Jk (Jd (Jh U) U U U (Jd (Ji U) U U U (Ja (hN1 _ _ (Jb [(0,.slice _ _ _),(1,.string _)] ⟨U,U,O⟩ fun σ => Jg fun N2 hN2 => Jk (Jd (Kl U) U U U (Jd (Ku U) U U U ?_)))))))
 refine My (fun v T' => T' = [] ∧ ∃ (k : Nat) (b : Bool),v = .tuple #[.int .i64 (k : Int),.bool b] ∧ (b = true → ∃ h : k < fs.length,fs[k].pl.path = path) ∧ (b = false → ∀ f ∈ fs,f.pl.path ≠ path)) (Kb (vs := [.slice _ _ _,.string _,_]) Tryz.func99 U (by kernel_rfl) U) (fun w hM => (bsf_any w A c fs (hR.base hM) v path).mono fun _ _ ⟨k,b,h1,h2,h3,h4⟩ => ⟨_,[],h1,⟨U,k,b,U,h3,h4⟩,(Mem.start w).call h2⟩) U U U ?_
 rintro _ _ ⟨rfl,k,b,rfl,hf1,hf2⟩
 refine Jd (Mg U U) U U U (Jd (Mi U U) U U U (Jd (Jh U) U U U (Jd (Ji U) U U U (Ja (hN2 _ _ (Jb [(4,.int _ _),(5,.bool _)] ⟨U,U,O⟩ fun σ => ?_))))))
 refine Ke fun w1 hM => ?_
 refine ⟨_,res2 rfl (rt (v := .int _ _) rfl) (rt (v := .bool _) rfl),?_⟩
 exact ⟨k,b,rfl,hM.low,hf1,hf2⟩
end Go.Proofs.YtbkameioedmlkaaGreatDoor
namespace Go.Proofs.YtbkameioedmlkaaGreatDoor
open Go.RowKit Go.Cf
set_option maxRecDepth 10000
theorem Qm (a : Addr) (w : World) : (Instr.fieldAt 61 (.pointer (some a)) 0).run Tryz.prog w = .ok (.pointer (some (a.add 0))) w := by kernel_rfl
theorem Zf (a : Addr) (w : World) : (Instr.fieldAt 85 (.pointer (some a)) 1).run Tryz.prog w = .ok (.pointer (some (a.add 1))) w := by kernel_rfl
set_option maxHeartbeats 8000000 in
theorem treeValidate_any (w : World) (A : Option Addr) (c : Nat) (fs : List FileC) (hR : TreeR w 0 A c fs) : Calls Tryz.prog 45 #[.agg #[.slice A fs.length c]] w fun e w' => e = .returned (fv (treeF (fpl fs))) ∧ Below w.heap.size w w' := by
 have hsl := hR.sb.len
 have hsm := hR.sb.max
 have hmx : maxLen = 9223372036854775807 := rfl
 refine Kz Tryz.func45 U Tryz.ntmps45 (leb U) ?_
 refine Jb [(0,.agg #[_])] ⟨U,O⟩ fun σ => Jg fun N1 hN1 => Jk ?_
 refine Mt (v := .agg #[_]) (cs := #[_]) U U U (fun b1 hb1 => ?_)
 refine Ka (cs := #[.int .i64 0,.int .i64 0]) Tryz.zeroValue33 U U (fun b2 hb2 => ?_)
 refine Ja (hN1 _ _ (gT [box b1 _,box b2 _] U (Jb [(1,.pointer _),(2,.pointer _)] ⟨U,U,O⟩ fun σ => Jg fun N2 hN2 => Jg fun N3 hN3 => Jk (Jd (Jc Qm U) U U U (Jd (Jq Tryz.isAgg59 U (Jm 0 U U)) U U U (Jd (Ks Tryz.underlying59 U) U U U (Jd (Mh U U) U U U (Ja ?_))))))))
 refine hN3 _ _ (Jb [(1,.pointer _),(2,.pointer _),(9,.bool _)] ⟨U,U,U,O⟩ fun σ => ?_)
 refine Jt (b := _) U (fun hc9 => ?_) (fun hc9 => ?_)
 replace hc9 := odt hc9
 have hF : treeF (fpl fs) = ⟨2,-1⟩ := by rw [treeF,if_pos (by simp; omega)]
 refine Jg fun N4 hN4 => Jk (Jd (Kd (vs := [(0,_),(1,_)]) (cells := #[_,_]) U (Ma _ _)) U U U (Jr 1 (v := .agg #[_,_]) (cs' := #[_,_]) U U Tryz.sizeOf33 U U U U (leb U) U U (Ja (hN4 _ _ (gT [box b1 _,box b2 _] U (Jb [(2,.pointer _)] ⟨U,O⟩ fun σ => ?_))))))
 refine Ke fun w1 hM => ?_
 refine ⟨_,res1 rfl (rc 1 (cs := [_,_]) hM rfl rfl Tryz.isAgg33 Tryz.sizeOf33 rfl),?_⟩
 exact ⟨by rw [hF],hM.low⟩
 replace hc9 := odf hc9
 have hF : treeF (fpl fs) = scan (fun i f => treeC (fpl fs) i f) (fpl fs) := by rw [treeF,if_neg (by simp; omega)]
 refine Jw (hN2 _ _ (Jb [(1,.pointer _),(2,.pointer _)] ⟨U,U,O⟩ fun σ => Jg fun N5 hN5 => Jg fun N6 hN6 => Jk (Jd (Jc Qm U) U U U (Jd (Jq Tryz.isAgg59 U (Jm 0 U U)) U U U (Jd (Ks Tryz.underlying59 U) U U U (Jd (Jf U) U U U (Ja (hN6 _ _ ?_))))))))
 refine Jb [(1,.pointer _),(2,.pointer _),(12,.slice _ _ _),(13,.int _ _),(14,.int _ _)] ⟨U,U,U,U,U,O⟩ fun σ => Kn ?_
 refine Mm [(14,.int _ _)] [(1,.pointer _),(2,.pointer _),(12,.slice _ _ _),(13,.int _ _)] ⟨U,O⟩ ⟨U,U,U,U,O⟩ fun σ => ?_
 refine Ml (G := Nat) (fun k => k ≤ fs.length ∧ ∀ j (h : j < fs.length),j < k → treeC (fpl fs) j fs[j].pl = 0) (fun k => fs.length - k) (fun k => [(14,.int .i64 (k : Int))]) (fun k => []) (0) ?h0 ⟨U,O⟩ ⟨U,U,U,U,O⟩ U ?round
 case h0 => exact ⟨Nat.zero_le _,fun _ _ h => absurd h (Nat.not_lt_zero _)⟩
 case round =>
  intro k hφ σ
  obtain ⟨hk,hz⟩ := hφ
  refine Jg fun N7 hN7 => Jk (Jd (Me U U) U U U (Ja (hN7 _ _ (Jb [(1,.pointer _),(2,.pointer _),(12,.slice _ _ _),(13,.int _ _),(14,.int _ _),(15,.bool _)] ⟨U,U,U,U,U,U,O⟩ fun σ => Jg fun N8 hN8 => ?_))))
  refine Jt (b := _) U (fun hc15 => ?_) (fun hc15 => ?_)
  replace hc15 := odt hc15
  have hk1 : k < fs.length := by omega
  obtain ⟨ad,rfl,-,hca⟩ := hR.rd.at_ hk1
  have hRk := hR.each _ (List.getElem_mem hk1)
  have hk2 : k < (fpl fs).length := by simpa using hk1
  refine Jw (hN8 _ _ (Jb [(1,.pointer _),(2,.pointer _),(12,.slice _ _ _),(13,.int _ _),(14,.int _ _)] ⟨U,U,U,U,U,O⟩ fun σ => Jg fun N9 hN9 => Kn (Jg fun N10 hN10 => Jk (Jd (Jf U) U U U (Jd (Jz (m := k) Tryz.underlying59 Tryz.sizeOf85 U U (by omega) (by omega) (by omega)) U U U (Jd (Kk (cs := [_,_]) Tryz.isAgg85 Tryz.sizeOf85 U U (Mv hca)) U U U ?_))))))
  refine Ka (cs := #[.string .empty,.slice none 0 0]) Tryz.zeroValue85 U U (fun b4 hb4 => ?_)
  refine Jd (Jh U) U U U (Jr 2 (v := .agg #[_,_]) (cs' := #[_,_]) U U Tryz.sizeOf85 U U U U (leb U) U U (Ja (hN10 _ _ (gT [box b1 _,box b2 _,box b4 _] U (Jb [(1,.pointer _),(2,.pointer _),(3,.int _ _),(4,.pointer _),(12,.slice _ _ _),(13,.int _ _),(14,.int _ _)] ⟨U,U,U,U,U,U,U,O⟩ fun σ => Jg fun N11 hN11 => Kn (Jg fun N12 hN12 => Jk (Jd (Jc Wr U) U U U (Jd (Jq Tryz.isAgg9 U (Jm 2 U U)) U U U ?_))))))))
  refine Km (Kb (vs := [.string _]) Tryz.func44 U (by kernel_rfl) U) (fun w hM => Wb w _) U U U ?_
  refine Jd (Mp U) U U U (Jd (Ji U) U U U (Ja (hN12 _ _ (Jb [(1,.pointer _),(2,.pointer _),(3,.int _ _),(4,.pointer _),(12,.slice _ _ _),(13,.int _ _),(14,.int _ _),(19,.bool _)] ⟨U,U,U,U,U,U,U,U,O⟩ fun σ => ?_))))
  refine Jt (b := _) U (fun hc19 => ?_) (fun hc19 => ?_)
  replace hc19 := Ub hc19
  have hC : treeC (fpl fs) k fs[k].pl = 12 := by rw [treeC,if_pos (by simp [hc19])]
  refine Jg fun N13 hN13 => Jk (Jd (Jf U) U U U (Jd (Kd (vs := [(0,_),(1,.int _ _)]) (cells := #[_,_]) U (Ma _ _)) U U U (Jr 1 (v := .agg #[_,_]) (cs' := #[_,_]) U U Tryz.sizeOf33 U U U U (leb U) U U (Ja (hN13 _ _ (gT [box b1 _,box b2 _,box b4 _] U (Jb [(2,.pointer _)] ⟨U,O⟩ fun σ => ?_)))))))
  refine Ke fun w1 hM => ?_
  refine ⟨_,res1 rfl (rc 1 (cs := [_,_]) hM rfl rfl Tryz.isAgg33 Tryz.sizeOf33 rfl),?_⟩
  exact ⟨by rw [hF,JW hk1 hz hC (by decide)],hM.low⟩
  replace hc19 := Ue hc19
  have hpk : pathOk fs[k].pl.path = true := by simpa using hc19
  have hpz : fs[k].pl.path.size ≤ 1000000 := Nat.le_trans (Qi hpk) (by decide)
  have hqz : ∀ f ∈ fs.take k,f.pl.path.size ≤ 1000000 := fun f hf => by obtain ⟨j,hj,rfl⟩ := List.getElem_of_mem hf; rw [List.getElem_take]; exact Nat.le_trans (Qi (Yq (hz j (by simp at hj; omega) (by simp at hj; omega))).1) (by decide)
  have hp1 : ¬ ¬ pathOk fs[k].pl.path = true := fun h9 => h9 hpk
  refine Jg fun N14 hN14 => ?_
  refine Qx (by kernel_rfl) (by kernel_rfl) ?_
  refine gq (Jf U) U U U (gq (Mh U U) U U U (gq (Jn U) U U U ?_))
  refine Xb (want := true) U U U U U U (fun hg29 => ?_) (fun hg29 => ?_)
  have hg29d := odt hg29
  have hk0 : k - 1 < fs.length := by omega
  obtain ⟨ad2,hq2,-,hcb⟩ := hR.rd.at_ hk0
  cases hq2
  have hkp : prevS (fpl fs) k = fs[k - 1].pl.path := by simp [prevS,hk0]
  refine gq (Je (Jc Wr U)) U U U (Kp U U U U hg29 (gq (Je (Jq Tryz.isAgg9 U (Jm 2 U U))) U U U (Kp U U U U hg29 (gq (Je (Jc Qm U)) U U U (Kp U U U U hg29 (gq (Je (Jq Tryz.isAgg59 U (Jm 0 U U))) U U U (Kp U U U U hg29 (gq (Je (Jf U)) U U U ?_))))))))
  refine Kp U U U U hg29 (gq (Je (Zi U U ⟨by omega,by omega⟩)) U U U (Kp U U U U hg29 (gq (Je (Jz (m := k - 1) Tryz.underlying59 Tryz.sizeOf85 U U (by omega) (by omega) (by omega))) U U U (Kp U U U U hg29 (gq (Je (Kv Wr U)) U U U (Kp U U U U hg29 (gq (Je (Jq Tryz.isAgg9 U (Ms (hcb 0 _ U)))) U U U (Kp U U U U hg29 ?_))))))))
  refine gq (Je (y_leqs U U)) U U U (gq (Jo U hg29 U) U U U (gq (Ji U) U U U ?_))
  refine Mn ?_
  refine hN14 _ _ (Jb [(1,.pointer _),(2,.pointer _),(3,.int _ _),(4,.pointer _),(12,.slice _ _ _),(13,.int _ _),(14,.int _ _),(26,.bool _)] ⟨U,U,U,U,U,U,U,U,O⟩ fun σ => ?_)
  refine Jt (b := _) U (fun hc26 => ?_) (fun hc26 => ?_)
  have hC : treeC (fpl fs) k fs[k].pl = 5 := by rw [treeC,if_neg hp1,if_pos ⟨by omega,leS_t hkp hc26⟩]
  refine Jg fun N15 hN15 => Jk (Jd (Jf U) U U U (Jd (Kd (vs := [(0,_),(1,.int _ _)]) (cells := #[_,_]) U (Ma _ _)) U U U (Jr 1 (v := .agg #[_,_]) (cs' := #[_,_]) U U Tryz.sizeOf33 U U U U (leb U) U U (Ja (hN15 _ _ (gT [box b1 _,box b2 _,box b4 _] U (Jb [(2,.pointer _)] ⟨U,O⟩ fun σ => ?_)))))))
  refine Ke fun w1 hM => ?_
  refine ⟨_,res1 rfl (rc 1 (cs := [_,_]) hM rfl rfl Tryz.isAgg33 Tryz.sizeOf33 rfl),?_⟩
  exact ⟨by rw [hF,JW hk1 hz hC (by decide)],hM.low⟩
  have hp2 : ¬ (0 < k ∧ ¬ ltS (prevS (fpl fs) k) fs[k].pl.path) := by first | exact fun h9 => h9.2 (leS_f hkp hc26) | exact fun h9 => absurd h9.1 (by omega)
  refine Jg fun N16 hN16 => ?_
  refine Qx (by kernel_rfl) (by kernel_rfl) ?_
  refine gq (Jc Qm U) U U U (gq (Jq Tryz.isAgg59 U (Jm 0 U U)) U U U (gq (Jf U) U U U (gq (Zm (m := k) Tryz.underlying59 Tryz.sizeOf85 U U (by omega) (by omega) U) U U U (gq (Jc Wr U) U U U (gq (Jq Tryz.isAgg9 U (Jm 2 U U)) U U U ?_)))))
  refine Ww (Kb (vs := [.slice _ _ _,.string _,_]) Tryz.func83 U (by kernel_rfl) U) (fun w hM => by have hc := KZ w (some ad) k c (fs.take k) (rdl_take (hR.rd.base hM) k) (by simp; omega) (by simp; omega) fs[k].pl.path (-1) hpz hqz; exact hc) U U U ?_
  refine gq (Ji U) U U U ?_
  refine Mn ?_
  refine hN16 _ _ (Jb [(1,.pointer _),(2,.pointer _),(3,.int _ _),(4,.pointer _),(12,.slice _ _ _),(13,.int _ _),(14,.int _ _),(43,.bool _)] ⟨U,U,U,U,U,U,U,U,O⟩ fun σ => ?_)
  refine Jt (b := _) U (fun hc43 => ?_) (fun hc43 => ?_)
  have hC : treeC (fpl fs) k fs[k].pl = 7 := by rw [treeC,if_neg hp1,if_neg hp2,if_pos (by rw [← List.map_take]; exact hc43)]
  refine Jg fun N17 hN17 => Jk (Jd (Jf U) U U U (Jd (Kd (vs := [(0,_),(1,.int _ _)]) (cells := #[_,_]) U (Ma _ _)) U U U (Jr 1 (v := .agg #[_,_]) (cs' := #[_,_]) U U Tryz.sizeOf33 U U U U (leb U) U U (Ja (hN17 _ _ (gT [box b1 _,box b2 _,box b4 _] U (Jb [(2,.pointer _)] ⟨U,O⟩ fun σ => ?_)))))))
  refine Ke fun w1 hM => ?_
  refine ⟨_,res1 rfl (rc 1 (cs := [_,_]) hM rfl rfl Tryz.isAgg33 Tryz.sizeOf33 rfl),?_⟩
  exact ⟨by rw [hF,JW hk1 hz hC (by decide)],hM.low⟩
  have hC : treeC (fpl fs) k fs[k].pl = (linesF fs[k].pl.lines).code := by rw [treeC,if_neg hp1,if_neg hp2,if_neg (by rw [← List.map_take,show clashF _ _ _ (List.map FileC.pl (fs.take k)) = false from hc43]; simp)]
  refine Jw (hN11 _ _ (Jb [(1,.pointer _),(2,.pointer _),(3,.int _ _),(4,.pointer _),(12,.slice _ _ _),(13,.int _ _),(14,.int _ _)] ⟨U,U,U,U,U,U,U,O⟩ fun σ => Jg fun N18 hN18 => Jk (Jd (Jc Zf U) U U U (Jd (Jq Tryz.isAgg22 U (Jm 2 U U)) U U U (Jd (Jf U) U U U ?_)))))
  refine Km (Kb (vs := [.slice _ _ _,.int _ _]) Tryz.func28 U (by kernel_rfl) U) (fun w hM => Wf w _ _ _ (hRk.rd.base hM) (Nat.le_trans hRk.sb.len hRk.sb.max) (k : Int)) U U U ?_
  refine Ka (cs := #[.int .i64 0,.int .i64 0]) Tryz.zeroValue33 U U (fun b5 hb5 => ?_)
  refine Jr 3 (v := .agg #[_,_]) (cs' := #[_,_]) U U Tryz.sizeOf33 U U U U (leb U) U U (Ja (hN18 _ _ (gT [box b1 _,box b2 _,box b4 _,box b5 _] U (Jb [(1,.pointer _),(2,.pointer _),(5,.pointer _),(12,.slice _ _ _),(13,.int _ _),(14,.int _ _)] ⟨U,U,U,U,U,U,O⟩ fun σ => Jg fun N19 hN19 => Jk (Jd (Kk (cs := [_,_]) Tryz.isAgg33 Tryz.sizeOf33 U U (Kf 3 U)) U U U (Jd (Kd (vs := []) (cells := #[.int .i64 0,.int .i64 0]) U Qh) U U U (Jd (Uk (vx := .agg #[_,_]) (vy := .agg #[_,_]) U U (fun w => eg33 _ _ _ _ _ w) (fun w => ne33 _ _ _ _ w)) U U U (Ja ?_))))))))
  refine hN19 _ _ (Jb [(1,.pointer _),(2,.pointer _),(5,.pointer _),(12,.slice _ _ _),(13,.int _ _),(14,.int _ _),(59,.bool _)] ⟨U,U,U,U,U,U,U,O⟩ fun σ => ?_)
  refine Jt (b := _) U (fun hc59 => ?_) (fun hc59 => ?_)
  replace hc59 := Qe.1 hc59
  refine Jg fun N20 hN20 => Jk (Jd (Kk (cs := [_,_]) Tryz.isAgg33 Tryz.sizeOf33 U U (Kf 3 U)) U U U (Jr 1 (v := .agg #[_,_]) (cs' := #[_,_]) U U Tryz.sizeOf33 U U U U (leb U) U U (Ja (hN20 _ _ (gT [box b1 _,box b2 _,box b4 _,box b5 _] U (Jb [(2,.pointer _)] ⟨U,O⟩ fun σ => ?_))))))
  refine Ke fun w1 hM => ?_
  refine ⟨_,res1 rfl (rc 1 (cs := [_,_]) hM rfl rfl Tryz.isAgg33 Tryz.sizeOf33 rfl),?_⟩
  exact ⟨by rw [hF,JW hk1 hz hC (sec_code hc59),secondF,if_pos (sec_ne hc59)],hM.low⟩
  replace hc59 := Qf.1 hc59
  have hC0 : treeC (fpl fs) k fs[k].pl = 0 := by rw [hC]; exact sec_zero hc59
  refine Jw (hN9 _ _ (Jb [(1,.pointer _),(2,.pointer _),(12,.slice _ _ _),(13,.int _ _),(14,.int _ _)] ⟨U,U,U,U,U,O⟩ fun σ => Jk (Jd (Kr U U ⟨by omega,by omega⟩) U U U (Jd (Jf U) U U U (Ja ?_)))))
  refine Kt (k + 1) (by omega) (⟨by omega,fun j h hj => by rcases Nat.lt_succ_iff_lt_or_eq.1 hj with h1 | rfl; exact hz j h h1; exact hC0⟩) ⟨U,O⟩ ⟨U,U,U,U,O⟩ ⟨_,U⟩
  have hg29d := odf hg29
  refine Kg U U U U hg29 U U (Kg U U U U hg29 U U (Kg U U U U hg29 U U (Kg U U U U hg29 U U (Kg U U U U hg29 U U (Kg U U U U hg29 U U (Kg U U U U hg29 U U (Kg U U U U hg29 U U (Kg U U U U hg29 U U ?_))))))))
  refine gq (Jp U hg29 U) U U U (gq (Ji U) U U U ?_)
  refine Mn ?_
  refine hN14 _ _ (Jb [(1,.pointer _),(2,.pointer _),(3,.int _ _),(4,.pointer _),(12,.slice _ _ _),(13,.int _ _),(14,.int _ _),(26,.bool _)] ⟨U,U,U,U,U,U,U,U,O⟩ fun σ => ?_)
  refine Jt (b := _) U (fun hc26 => ?_) (fun hc26 => ?_)
  cases hc26
  have hp2 : ¬ (0 < k ∧ ¬ ltS (prevS (fpl fs) k) fs[k].pl.path) := by first | exact fun h9 => h9.2 (leS_f hkp hc26) | exact fun h9 => absurd h9.1 (by omega)
  refine Jg fun N21 hN21 => ?_
  refine Qx (by kernel_rfl) (by kernel_rfl) ?_
  refine gq (Jc Qm U) U U U (gq (Jq Tryz.isAgg59 U (Jm 0 U U)) U U U (gq (Jf U) U U U (gq (Zm (m := k) Tryz.underlying59 Tryz.sizeOf85 U U (by omega) (by omega) U) U U U (gq (Jc Wr U) U U U (gq (Jq Tryz.isAgg9 U (Jm 2 U U)) U U U ?_)))))
  refine Ww (Kb (vs := [.slice _ _ _,.string _,_]) Tryz.func83 U (by kernel_rfl) U) (fun w hM => by have hc := KZ w (some ad) k c (fs.take k) (rdl_take (hR.rd.base hM) k) (by simp; omega) (by simp; omega) fs[k].pl.path (-1) hpz hqz; exact hc) U U U ?_
  refine gq (Ji U) U U U ?_
  refine Mn ?_
  refine hN21 _ _ (Jb [(1,.pointer _),(2,.pointer _),(3,.int _ _),(4,.pointer _),(12,.slice _ _ _),(13,.int _ _),(14,.int _ _),(43,.bool _)] ⟨U,U,U,U,U,U,U,U,O⟩ fun σ => ?_)
  refine Jt (b := _) U (fun hc43 => ?_) (fun hc43 => ?_)
  have hC : treeC (fpl fs) k fs[k].pl = 7 := by rw [treeC,if_neg hp1,if_neg hp2,if_pos (by rw [← List.map_take]; exact hc43)]
  refine Jg fun N22 hN22 => Jk (Jd (Jf U) U U U (Jd (Kd (vs := [(0,_),(1,.int _ _)]) (cells := #[_,_]) U (Ma _ _)) U U U (Jr 1 (v := .agg #[_,_]) (cs' := #[_,_]) U U Tryz.sizeOf33 U U U U (leb U) U U (Ja (hN22 _ _ (gT [box b1 _,box b2 _,box b4 _] U (Jb [(2,.pointer _)] ⟨U,O⟩ fun σ => ?_)))))))
  refine Ke fun w1 hM => ?_
  refine ⟨_,res1 rfl (rc 1 (cs := [_,_]) hM rfl rfl Tryz.isAgg33 Tryz.sizeOf33 rfl),?_⟩
  exact ⟨by rw [hF,JW hk1 hz hC (by decide)],hM.low⟩
  have hC : treeC (fpl fs) k fs[k].pl = (linesF fs[k].pl.lines).code := by rw [treeC,if_neg hp1,if_neg hp2,if_neg (by rw [← List.map_take,show clashF _ _ _ (List.map FileC.pl (fs.take k)) = false from hc43]; simp)]
  refine Jw (hN11 _ _ (Jb [(1,.pointer _),(2,.pointer _),(3,.int _ _),(4,.pointer _),(12,.slice _ _ _),(13,.int _ _),(14,.int _ _)] ⟨U,U,U,U,U,U,U,O⟩ fun σ => Jg fun N23 hN23 => Jk (Jd (Jc Zf U) U U U (Jd (Jq Tryz.isAgg22 U (Jm 2 U U)) U U U (Jd (Jf U) U U U ?_)))))
  refine Km (Kb (vs := [.slice _ _ _,.int _ _]) Tryz.func28 U (by kernel_rfl) U) (fun w hM => Wf w _ _ _ (hRk.rd.base hM) (Nat.le_trans hRk.sb.len hRk.sb.max) (k : Int)) U U U ?_
  refine Ka (cs := #[.int .i64 0,.int .i64 0]) Tryz.zeroValue33 U U (fun b5 hb5 => ?_)
  refine Jr 3 (v := .agg #[_,_]) (cs' := #[_,_]) U U Tryz.sizeOf33 U U U U (leb U) U U (Ja (hN23 _ _ (gT [box b1 _,box b2 _,box b4 _,box b5 _] U (Jb [(1,.pointer _),(2,.pointer _),(5,.pointer _),(12,.slice _ _ _),(13,.int _ _),(14,.int _ _)] ⟨U,U,U,U,U,U,O⟩ fun σ => Jg fun N24 hN24 => Jk (Jd (Kk (cs := [_,_]) Tryz.isAgg33 Tryz.sizeOf33 U U (Kf 3 U)) U U U (Jd (Kd (vs := []) (cells := #[.int .i64 0,.int .i64 0]) U Qh) U U U (Jd (Uk (vx := .agg #[_,_]) (vy := .agg #[_,_]) U U (fun w => eg33 _ _ _ _ _ w) (fun w => ne33 _ _ _ _ w)) U U U (Ja ?_))))))))
  refine hN24 _ _ (Jb [(1,.pointer _),(2,.pointer _),(5,.pointer _),(12,.slice _ _ _),(13,.int _ _),(14,.int _ _),(59,.bool _)] ⟨U,U,U,U,U,U,U,O⟩ fun σ => ?_)
  refine Jt (b := _) U (fun hc59 => ?_) (fun hc59 => ?_)
  replace hc59 := Qe.1 hc59
  refine Jg fun N25 hN25 => Jk (Jd (Kk (cs := [_,_]) Tryz.isAgg33 Tryz.sizeOf33 U U (Kf 3 U)) U U U (Jr 1 (v := .agg #[_,_]) (cs' := #[_,_]) U U Tryz.sizeOf33 U U U U (leb U) U U (Ja (hN25 _ _ (gT [box b1 _,box b2 _,box b4 _,box b5 _] U (Jb [(2,.pointer _)] ⟨U,O⟩ fun σ => ?_))))))
  refine Ke fun w1 hM => ?_
  refine ⟨_,res1 rfl (rc 1 (cs := [_,_]) hM rfl rfl Tryz.isAgg33 Tryz.sizeOf33 rfl),?_⟩
  exact ⟨by rw [hF,JW hk1 hz hC (sec_code hc59),secondF,if_pos (sec_ne hc59)],hM.low⟩
  replace hc59 := Qf.1 hc59
  have hC0 : treeC (fpl fs) k fs[k].pl = 0 := by rw [hC]; exact sec_zero hc59
  refine Jw (hN9 _ _ (Jb [(1,.pointer _),(2,.pointer _),(12,.slice _ _ _),(13,.int _ _),(14,.int _ _)] ⟨U,U,U,U,U,O⟩ fun σ => Jk (Jd (Kr U U ⟨by omega,by omega⟩) U U U (Jd (Jf U) U U U (Ja ?_)))))
  refine Kt (k + 1) (by omega) (⟨by omega,fun j h hj => by rcases Nat.lt_succ_iff_lt_or_eq.1 hj with h1 | rfl; exact hz j h h1; exact hC0⟩) ⟨U,O⟩ ⟨U,U,U,U,O⟩ ⟨_,U⟩
  replace hc15 := odf hc15
  have hF2 : treeF (fpl fs) = ⟨0,0⟩ := by rw [hF]; exact Qy fun j hj => by rw [List.getElem_map]; exact hz j (by simpa using hj) (by simp at hj; omega)
  refine Mx ?_
  refine hN5 _ _ (Jb [(2,.pointer _)] ⟨U,O⟩ fun σ => Jg fun N26 hN26 => Jk (Jd (Kd (vs := []) (cells := #[.int .i64 0,.int .i64 0]) U Qh) U U U (Jr 1 (v := .agg #[_,_]) (cs' := #[_,_]) U U Tryz.sizeOf33 U U U U (leb U) U U (Ja (hN26 _ _ (gT [box b1 _,box b2 _] U (Jb [(2,.pointer _)] ⟨U,O⟩ fun σ => ?_)))))))
  refine Ke fun w1 hM => ?_
  refine ⟨_,res1 rfl (rc 1 (cs := [_,_]) hM rfl rfl Tryz.isAgg33 Tryz.sizeOf33 rfl),?_⟩
  exact ⟨by rw [hF2],hM.low⟩
set_option maxHeartbeats 2000000 in
theorem Wn (w : World) (A : Option Addr) (c : Nat) (fs : List FileC) (hR : TreeR w 0 A c fs) (i : Int) : Calls Tryz.prog 36 #[.agg #[.slice A fs.length c], .int .i64 i] w fun e w' => e = .returned (fv (secondF (treeF (fpl fs)) i)) ∧ Below w.heap.size w w' := by
 refine Kz Tryz.func36 U Tryz.ntmps36 (leb U) ?_
 refine Jb [(0,.agg #[_]),(1,.int _ _)] ⟨U,U,O⟩ fun σ => Jg fun N1 hN1 => Jk ?_
 refine Mt (v := .agg #[_]) (cs := #[_]) U U U (fun b2 hb2 => ?_)
 refine Ka (cs := #[.int .i64 0,.int .i64 0]) Tryz.zeroValue33 U U (fun b4 hb4 => ?_)
 refine Ja (hN1 _ _ (gT [box b2 _,box b4 _] U (Jb [(1,.int _ _),(2,.pointer _),(4,.pointer _)] ⟨U,U,U,O⟩ fun σ => Jg fun N2 hN2 => Jg fun N3 hN3 => Jk (Jd (Kk (cs := [_]) Tryz.isAgg61 Tryz.sizeOf61 U U (Kf 0 U)) U U U ?_))))
 refine Km (Kb (vs := [.agg #[_]]) Tryz.func45 U (by kernel_rfl) U) (fun w hM => treeValidate_any w A c fs (hR.base hM)) U U U ?_
 refine Ka (cs := #[.int .i64 0,.int .i64 0]) Tryz.zeroValue33 U U (fun b5 hb5 => ?_)
 refine Jr 2 (v := .agg #[_,_]) (cs' := #[_,_]) U U Tryz.sizeOf33 U U U U (leb U) U U (Ja (hN3 _ _ (gT [box b2 _,box b4 _,box b5 _] U (Jb [(1,.int _ _),(4,.pointer _),(5,.pointer _)] ⟨U,U,U,O⟩ fun σ => Jg fun N4 hN4 => Jk (Jd (Kk (cs := [_,_]) Tryz.isAgg33 Tryz.sizeOf33 U U (Kf 2 U)) U U U (Jd (Kd (vs := []) (cells := #[.int .i64 0,.int .i64 0]) U Qh) U U U (Jd (Uk (vx := .agg #[_,_]) (vy := .agg #[_,_]) U U (fun w => eg33 _ _ _ _ _ w) (fun w => ne33 _ _ _ _ w)) U U U (Ja ?_))))))))
 refine hN4 _ _ (Jb [(1,.int _ _),(4,.pointer _),(5,.pointer _),(10,.bool _)] ⟨U,U,U,U,O⟩ fun σ => ?_)
 refine Jt (b := _) U (fun hc10 => ?_) (fun hc10 => ?_)
 replace hc10 := Qe.1 hc10
 refine Jg fun N5 hN5 => Jk (Jd (Jc Uo U) U U U (Jd (Jq Tryz.isAgg3 U (Jm 2 U U)) U U U (Jd (Jf U) U U U (Jd (Kd (vs := [(0,.int _ _),(1,.int _ _)]) (cells := #[_,_]) U (Ma _ _)) U U U (Jr 1 (v := .agg #[_,_]) (cs' := #[_,_]) U U Tryz.sizeOf33 U U U U (leb U) U U (Ja (hN5 _ _ (gT [box b2 _,box b4 _,box b5 _] U ?_))))))))
 refine Jb [(4,.pointer _)] ⟨U,O⟩ fun σ => ?_
 refine Ke fun w1 hM => ?_
 refine ⟨_,res1 rfl (rc 1 (cs := [_,_]) hM rfl rfl Tryz.isAgg33 Tryz.sizeOf33 rfl),?_⟩
 exact ⟨by rw [secondF,if_pos hc10],hM.low⟩
 replace hc10 := Qf.1 hc10
 refine Jw (hN2 _ _ (Jb [(4,.pointer _)] ⟨U,O⟩ fun σ => Jg fun N6 hN6 => Jk (Jd (Kd (vs := []) (cells := #[.int .i64 0,.int .i64 0]) U Qh) U U U (Jr 1 (v := .agg #[_,_]) (cs' := #[_,_]) U U Tryz.sizeOf33 U U U U (leb U) U U (Ja (hN6 _ _ (gT [box b2 _,box b4 _,box b5 _] U (Jb [(4,.pointer _)] ⟨U,O⟩ fun σ => ?_))))))))
 refine Ke fun w1 hM => ?_
 refine ⟨_,res1 rfl (rc 1 (cs := [_,_]) hM rfl rfl Tryz.isAgg33 Tryz.sizeOf33 rfl),?_⟩
 exact ⟨by rw [secondF,if_neg (by simp [hc10])],hM.low⟩
end Go.Proofs.YtbkameioedmlkaaGreatDoor
namespace Go.Proofs.YtbkameioedmlkaaGreatDoor
open Go.RowKit Go.Cf
set_option maxRecDepth 10000
theorem bd70_0_1_2 (x1 : Int) (x2 : ByteArray) (x3 : Int) : Tryz.prog.built 70 [(0, .int .i64 x1), (1, .string x2), (2, .int .i64 x3)] = some #[.int .i64 x1, .string x2, .int .i64 x3] := by kernel_rfl
theorem el70 : Elem Tryz.prog 70 3 32 := Xz (z := .agg #[.int .i64 0, .string .empty, .int .i64 0]) (by kernel_rfl) rfl (by decide)
set_option maxHeartbeats 1000000 in
theorem isUser_any (w : World) (n : Int) : Calls Tryz.prog 43 #[.int .i64 n] w fun e w' => e = .returned (.bool (decide (0 ≤ n) && decide (n ≤ 7))) ∧ Below w.heap.size w w' := by
 refine Kz Tryz.func43 U Tryz.ntmps43 (leb U) ?_
 refine Jb [(0,.int _ _)] ⟨U,O⟩ fun σ => Jg fun N1 hN1 => Jk (Jd (Ji U) U U U (Ja (hN1 _ _ (Jb [(0,.int _ _)] ⟨U,O⟩ fun σ => Jg fun N2 hN2 => Jk (Jd (Jf U) U U U (Jd (Wj U U) U U U (Jd (Jn U) U U U ?_)))))))
 refine Kh (want := true) U U U U U U (fun hg5 => ?_) (fun hg5 => ?_)
 have hg5d := odt hg5
 have h9 : decide (0 ≤ n) = true := decide_eq_true (by omega)
 refine Jd (Je (Jf U)) U U U (Js U U U U hg5 (Jd (Je (Zj U U)) U U U (Jd (Jo U hg5 U) U U U (Jd (Ji U) U U U (Ja (hN2 _ _ (Jb [(2,.bool _)] ⟨U,O⟩ fun σ => ?_)))))))
 refine Ke fun w1 hM => ?_
 refine ⟨_,res1 rfl (rt (v := .bool _) rfl),?_⟩
 exact ⟨by rw [h9]; rfl,hM.low⟩
 have hg5d := odf hg5
 have h9 : decide (0 ≤ n) = false := decide_eq_false (by omega)
 refine Jj U U U U hg5 U U (Jd (Jp U hg5 U) U U U (Jd (Ji U) U U U (Ja (hN2 _ _ (Jb [(2,.bool _)] ⟨U,O⟩ fun σ => ?_)))))
 refine Ke fun w1 hM => ?_
 refine ⟨_,res1 rfl (rt (v := .bool _) rfl),?_⟩
 exact ⟨by rw [h9]; rfl,hM.low⟩
set_option maxHeartbeats 2000000 in
theorem describe_any (w : World) (A : Option Addr) (c : Nat) (fs : List FileC) (hR : TreeR w 0 A c fs) (v : VTree (fpl fs)) (path : ByteArray) : Calls Tryz.prog 37 #[.agg #[.slice A fs.length c], .string path] w fun e w' => e = .returned (.int .i64 (descP (fpl fs) path)) ∧ Below w.heap.size w w' := by
 have hsl := hR.sb.len
 have hsm := hR.sb.max
 have hmx : maxLen = 9223372036854775807 := rfl
 refine Kz Tryz.func37 U Tryz.ntmps37 (leb U) ?_
 refine Jb [(0,.agg #[_]),(1,.string _)] ⟨U,U,O⟩ fun σ => Jg fun N1 hN1 => Jk ?_
 refine Mt (v := .agg #[_]) (cs := #[_]) U U U (fun b2 hb2 => ?_)
 refine Jd (Jh U) U U U (Ja (hN1 _ _ (gT [box b2 _] U (Jb [(1,.string _),(2,.pointer _)] ⟨U,U,O⟩ fun σ => Jg fun N2 hN2 => Jk (Jd (Jc Qm U) U U U (Jd (Jq Tryz.isAgg59 U (Jm 0 U U)) U U U (Jd (Ku U) U U U ?_)))))))
 refine My (fun v T' => T' = [] ∧ ∃ (k : Nat) (b : Bool),v = .tuple #[.int .i64 (k : Int),.bool b] ∧ (b = true → ∃ h : k < fs.length,fs[k].pl.path = path) ∧ (b = false → ∀ f ∈ fs,f.pl.path ≠ path)) (Kb (vs := [.slice _ _ _,.string _]) Tryz.func69 U (by kernel_rfl) U) (fun w hM => (Yp w A c fs (hR.base hM) v path).mono fun _ _ ⟨k,b,h1,h2,h3,h4⟩ => ⟨_,[],h1,⟨U,k,b,U,h3,h4⟩,(Mem.start w).call h2⟩) U U U ?_
 rintro _ _ ⟨rfl,k,b,rfl,hf1,hf2⟩
 refine Jd (Ju (v := .tuple #[.int _ _,.bool _]) U) U U U (Jd (Mg U U) U U U (Jd (Mi U U) U U U (Jd (Jh U) U U U (Jd (Ji U) U U U (Ja (hN2 _ _ (Jb [(2,.pointer _),(5,.int _ _),(6,.bool _)] ⟨U,U,U,O⟩ fun σ => Jg fun N3 hN3 => Jg fun N4 hN4 => Jk (Jd (Jn U) U U U ?_))))))))
 refine Jd (Mp U) U U U (Ja (hN4 _ _ (Jb [(2,.pointer _),(5,.int _ _),(17,.bool _)] ⟨U,U,U,O⟩ fun σ => ?_)))
 refine Jt (b := _) U (fun hc17 => ?_) (fun hc17 => ?_)
 replace hc17 := Ub hc17
 have hD : descP (fpl fs) path = -1 := desc_none (hf2 (by simpa using hc17))
 refine Jg fun N5 hN5 => Jk (Jd (Jh U) U U U (Ja (hN5 _ _ (Jb [(4,.int _ _)] ⟨U,O⟩ fun σ => ?_))))
 refine Ke fun w1 hM => ?_
 refine ⟨_,res1 rfl (rt (v := .int _ _) rfl),?_⟩
 exact ⟨by rw [hD],hM.low⟩
 replace hc17 := Ue hc17
 obtain ⟨hk1,hkp⟩ := hf1 (by simpa using hc17)
 obtain ⟨ad,rfl,-,hca⟩ := hR.rd.at_ hk1
 have hRk := hR.each _ (List.getElem_mem hk1)
 have hlz : linesF fs[k].pl.lines = ⟨0,0⟩ := v.lines _ (List.mem_map_of_mem (List.getElem_mem hk1))
 have hD : descP (fpl fs) path = strD fs[k].pl.lines := desc_at v hk1 hkp
 refine Jw (hN3 _ _ (Jb [(2,.pointer _),(5,.int _ _)] ⟨U,U,O⟩ fun σ => Jg fun N6 hN6 => Jk (Jd (Jc Qm U) U U U (Jd (Jq Tryz.isAgg59 U (Jm 0 U U)) U U U (Jd (Jf U) U U U (Jd (Jz (m := k) Tryz.underlying59 Tryz.sizeOf85 U U (by omega) (by omega) (by omega)) U U U (Jd (Kv Zf U) U U U (Jd (Jq Tryz.isAgg22 U (Ms (hca 1 _ U))) U U U ?_))))))))
 refine Km (Kb (vs := [.slice _ _ _]) Tryz.func47 U (by kernel_rfl) U) (fun w hM => dStr_any w _ _ fs[k].pl.lines (hRk.rd.base hM) (Qu hlz) (linesF_sizes hlz)) U U U ?_
 refine Jd (Ju (v := .tuple #[.int _ _,.agg #[_,_]]) U) U U U (Jd (Mg U U) U U U (Jd (Mw (v := .agg #[_,_]) U U) U U U ?_))
 refine Ka (cs := #[.int .i64 0,.int .i64 0]) Tryz.zeroValue33 U U (fun b8 hb8 => ?_)
 refine Jd (Jh U) U U U (Jr 1 (v := .agg #[_,_]) (cs' := #[_,_]) U U Tryz.sizeOf33 U U U U (leb U) U U (Ja (hN6 _ _ (gT [box b2 _,box b8 _] U (Jb [(7,.int _ _)] ⟨U,O⟩ fun σ => Jg fun N7 hN7 => Jk (Jd (Jf U) U U U (Jd (Jh U) U U U (Ja ?_))))))))
 refine hN7 _ _ (Jb [(4,.int _ _)] ⟨U,O⟩ fun σ => ?_)
 refine Ke fun w1 hM => ?_
 refine ⟨_,res1 rfl (rt (v := .int _ _) rfl),?_⟩
 exact ⟨by rw [hD],hM.low⟩
set_option maxHeartbeats 8000000 in
theorem JQ (w : World) (A : Option Addr) (c : Nat) (fs : List FileC) (hR : TreeR w 0 A c fs) (u : Int) (PA : Option Addr) (pc : Nat) (ps : List ByteArray) (hps : Rdl w 0 1 strCells PA ps) (hpl : ps.length ≤ pc) (hpm : pc ≤ maxLen) : Calls Tryz.prog 26 #[.agg #[.slice A fs.length c], .int .i64 u, .slice PA ps.length pc] w fun e w' => ∃ v T', e = .returned (.tuple #[v, fv (approveF (fpl fs) u ps)]) ∧ T' = [rowl apprCells w.heap.size 70 3 (v) (approveV (fpl fs) u ps)] ∧ Mem w T' w' := by
 have hsl := hR.sb.len
 have hsm := hR.sb.max
 have hmx : maxLen = 9223372036854775807 := rfl
 refine Kz Tryz.func26 U Tryz.ntmps26 (leb U) ?_
 refine Jb [(0,.agg #[_]),(1,.int _ _),(2,.slice _ _ _)] ⟨U,U,U,O⟩ fun σ => Jg fun N1 hN1 => Jk ?_
 refine Mt (v := .agg #[_]) (cs := #[_]) U U U (fun b3 hb3 => ?_)
 refine Jd (Kq U) U U U ?_
 refine Ka (cs := #[.int .i64 0,.int .i64 0]) Tryz.zeroValue33 U U (fun b7 hb7 => ?_)
 refine Ja (hN1 _ _ (gT [box b3 _,box b7 _] U (Jb [(1,.int _ _),(2,.slice _ _ _),(3,.pointer _),(7,.pointer _)] ⟨U,U,U,U,O⟩ fun σ => Jg fun N2 hN2 => Jg fun N3 hN3 => Jk (Jd (Kk (cs := [_]) Tryz.isAgg61 Tryz.sizeOf61 U U (Kf 0 U)) U U U ?_))))
 refine Km (Kb (vs := [.agg #[_],_]) Tryz.func36 U (by kernel_rfl) U) (fun w hM => Wn w A c fs (hR.base hM) (-2)) U U U ?_
 refine Ka (cs := #[.int .i64 0,.int .i64 0]) Tryz.zeroValue33 U U (fun b8 hb8 => ?_)
 refine Jr 2 (v := .agg #[_,_]) (cs' := #[_,_]) U U Tryz.sizeOf33 U U U U (leb U) U U (Ja (hN3 _ _ (gT [box b3 _,box b7 _,box b8 _] U (Jb [(1,.int _ _),(2,.slice _ _ _),(3,.pointer _),(7,.pointer _),(8,.pointer _)] ⟨U,U,U,U,U,O⟩ fun σ => Jg fun N4 hN4 => Jk (Jd (Kk (cs := [_,_]) Tryz.isAgg33 Tryz.sizeOf33 U U (Kf 2 U)) U U U (Jd (Kd (vs := []) (cells := #[.int .i64 0,.int .i64 0]) U Qh) U U U (Jd (Uk (vx := .agg #[_,_]) (vy := .agg #[_,_]) U U (fun w => eg33 _ _ _ _ _ w) (fun w => ne33 _ _ _ _ w)) U U U (Ja ?_))))))))
 refine hN4 _ _ (Jb [(1,.int _ _),(2,.slice _ _ _),(3,.pointer _),(7,.pointer _),(8,.pointer _),(16,.bool _)] ⟨U,U,U,U,U,U,O⟩ fun σ => ?_)
 refine Jt (b := _) U (fun hc16 => ?_) (fun hc16 => ?_)
 replace hc16 := Qe.1 hc16
 have hF : approveF (fpl fs) u ps = secondF (treeF (fpl fs)) (-2) := by rw [approveF,if_pos (sec_ne hc16)]
 refine Jg fun N5 hN5 => ?_
 refine Qr [] [(1,room b7 33 2)] (by kernel_rfl) ?_
 refine Jv 0 (TK := [box b3 _,room b7 33 2,box b8 _]) U (by kernel_rfl) (by kernel_rfl) (by kernel_rfl) #[false,true,false] (by kernel_rfl) U (Kk (cs := [_,_]) Tryz.isAgg33 Tryz.sizeOf33 U U (Kf 2 U)) U U U (Kj 1 U U) (listed' := #[true,false,false]) U ?_
 refine Jv 1 (TK := [box b3 _,room b7 33 2,box b8 _]) U (by kernel_rfl) (by kernel_rfl) (by kernel_rfl) #[true,false,false] (by kernel_rfl) U (Kq U) U U U (Kj 1 U U) (listed' := #[true,true,false]) U ?_
 refine Mr 2 (k' := 0) (listed' := #[true,true,true]) (by kernel_rfl) U U U ?_
 refine Jr 1 (v := .agg #[_,_]) (cs' := #[_,_]) U U Tryz.sizeOf33 U U U U (leb U) U U (Ja ?_)
 refine Mo (TK := [box b3 _,room b7 33 2,box b8 _]) U (Kj 1 U U) ?_
 refine Qd (by kernel_rfl) ?_
 refine hN5 _ _ (gT [box b3 _,box b7 _,box b8 _] U (Jb [(6,.slice _ _ _),(7,.pointer _)] ⟨U,U,O⟩ fun σ => ?_))
 refine Ke fun w1 hM => ?_
 refine ⟨_,res2 rfl (rt (v := .slice _ _ _) rfl) (rc 1 (cs := [_,_]) hM rfl rfl Tryz.isAgg33 Tryz.sizeOf33 rfl),?_⟩
 exact ⟨_,_,by rw [hF],by rw [approveV,if_neg (by rw [hF]; exact hc16)]; rfl,(Qa apprCells 70 3 hM).dropTo 3 rfl⟩
 replace hc16 := Qf.1 hc16
 have htz : treeF (fpl fs) = ⟨0,0⟩ := sec_ok hc16 (by decide)
 have v := Qq htz
 have hA0 : ¬ treeF (fpl fs) ≠ ⟨0,0⟩ := fun h9 => h9 htz
 refine Jw (hN2 _ _ (Jb [(1,.int _ _),(2,.slice _ _ _),(3,.pointer _),(7,.pointer _)] ⟨U,U,U,U,O⟩ fun σ => Jg fun N6 hN6 => Jg fun N7 hN7 => Jk (Jd (Jf U) U U U ?_)))
 refine Km (Kb (vs := [.int _ _]) Tryz.func43 U (by kernel_rfl) U) (fun w hM => isUser_any w u) U U U ?_
 refine Jd (Mp U) U U U (Ja (hN7 _ _ (Jb [(1,.int _ _),(2,.slice _ _ _),(3,.pointer _),(7,.pointer _),(20,.bool _)] ⟨U,U,U,U,U,O⟩ fun σ => ?_)))
 refine Jt (b := _) U (fun hc20 => ?_) (fun hc20 => ?_)
 replace hc20 := Ub hc20
 have hF : approveF (fpl fs) u ps = ⟨3,-3⟩ := by rw [approveF,if_neg hA0,if_pos (by simp at hc20; omega)]
 refine Jg fun N8 hN8 => Jk (Jd (Kd (vs := [(0,_),(1,_)]) (cells := #[_,_]) U (Ma _ _)) U U U (Jd (Kq U) U U U (Jr 1 (v := .agg #[_,_]) (cs' := #[_,_]) U U Tryz.sizeOf33 U U U U (leb U) U U (Ja (hN8 _ _ (gT [box b3 _,box b7 _,box b8 _] U (Jb [(6,.slice _ _ _),(7,.pointer _)] ⟨U,U,O⟩ fun σ => ?_)))))))
 refine Ke fun w1 hM => ?_
 refine ⟨_,res2 rfl (rt (v := .slice _ _ _) rfl) (rc 1 (cs := [_,_]) hM rfl rfl Tryz.isAgg33 Tryz.sizeOf33 rfl),?_⟩
 exact ⟨_,_,by rw [hF],by rw [approveV,if_neg (by rw [hF]; decide)]; rfl,(Qa apprCells 70 3 hM).dropTo 3 rfl⟩
 replace hc20 := Ue hc20
 have hA1 : ¬ (u < 0 ∨ 7 < u) := by simp at hc20; omega
 refine Jw (hN6 _ _ (Jb [(1,.int _ _),(2,.slice _ _ _),(3,.pointer _),(7,.pointer _)] ⟨U,U,U,U,O⟩ fun σ => Jg fun N9 hN9 => Jg fun N10 hN10 => Jk (Jd (Kl U) U U U (Jd (Ks Tryz.underlying22 U) U U U (Jd (Mh U U) U U U (Ja (hN10 _ _ (Jb [(1,.int _ _),(2,.slice _ _ _),(3,.pointer _),(7,.pointer _),(24,.bool _)] ⟨U,U,U,U,U,O⟩ fun σ => ?_))))))))
 refine Jt (b := _) U (fun hc24 => ?_) (fun hc24 => ?_)
 replace hc24 := odt hc24
 have hF : approveF (fpl fs) u ps = ⟨2,-1⟩ := by rw [approveF,if_neg hA0,if_neg hA1,if_pos (by omega)]
 refine Jg fun N11 hN11 => Jk (Jd (Kd (vs := [(0,_),(1,_)]) (cells := #[_,_]) U (Ma _ _)) U U U (Jd (Kq U) U U U (Jr 1 (v := .agg #[_,_]) (cs' := #[_,_]) U U Tryz.sizeOf33 U U U U (leb U) U U (Ja (hN11 _ _ (gT [box b3 _,box b7 _,box b8 _] U (Jb [(6,.slice _ _ _),(7,.pointer _)] ⟨U,U,O⟩ fun σ => ?_)))))))
 refine Ke fun w1 hM => ?_
 refine ⟨_,res2 rfl (rt (v := .slice _ _ _) rfl) (rc 1 (cs := [_,_]) hM rfl rfl Tryz.isAgg33 Tryz.sizeOf33 rfl),?_⟩
 exact ⟨_,_,by rw [hF],by rw [approveV,if_neg (by rw [hF]; decide)]; rfl,(Qa apprCells 70 3 hM).dropTo 3 rfl⟩
 replace hc24 := odf hc24
 have hFS : approveF (fpl fs) u ps = scan okPath ps := by rw [approveF,if_neg hA0,if_neg hA1,if_neg (by omega)]
 refine Jw (hN9 _ _ (Jb [(1,.int _ _),(2,.slice _ _ _),(3,.pointer _),(7,.pointer _)] ⟨U,U,U,U,O⟩ fun σ => Jg fun N12 hN12 => Jk (Jd (Kq U) U U U (Ja (hN12 _ _ (Jb [(1,.int _ _),(2,.slice _ _ _),(3,.pointer _),(7,.pointer _),(9,.slice _ _ _)] ⟨U,U,U,U,U,O⟩ fun σ => Jg fun N13 hN13 => Jg fun N14 hN14 => Jk (Jd (Kl U) U U U (Jd (Ks Tryz.underlying22 U) U U U ?_))))))))
 refine Jd (Jf U) U U U (Ja (hN14 _ _ (Jb [(1,.int _ _),(3,.pointer _),(7,.pointer _),(9,.slice _ _ _),(26,.slice _ _ _),(27,.int _ _),(28,.int _ _)] ⟨U,U,U,U,U,U,U,O⟩ fun σ => Kn ?_)))
 refine Xw apprCells 70 3 ?_
 refine Mm [(9,.slice _ _ _),(28,.int _ _)] [(1,.int _ _),(3,.pointer _),(7,.pointer _),(26,.slice _ _ _),(27,.int _ _)] ⟨U,U,O⟩ ⟨U,U,U,U,U,O⟩ fun σ => ?_
 refine Ml (G := Nat × Option Addr × Nat) (fun (k,Av,cv) => k ≤ ps.length ∧ ∀ j (h : j < ps.length),j < k → okPath j ps[j] = 0) (fun (k,Av,cv) => ps.length - k) (fun (k,Av,cv) => [(9,.slice Av (approveL (fpl fs) u (ps.take k)).length cv),(28,.int .i64 (k : Int))]) (fun (k,Av,cv) => [(3,rowl apprCells w.heap.size 70 3 (.slice Av (approveL (fpl fs) u (ps.take k)).length cv) (approveL (fpl fs) u (ps.take k)))]) ((0,none,0)) ?h0 ⟨U,U,O⟩ ⟨U,U,U,U,U,O⟩ U ?round
 case h0 => exact ⟨Nat.zero_le _,fun _ _ h => absurd h (Nat.not_lt_zero _)⟩
 case round =>
  rintro ⟨k,Av,cv⟩ hφ σ
  obtain ⟨hk,hz⟩ : k ≤ ps.length ∧ ∀ j (h : j < ps.length),j < k → okPath j ps[j] = 0 := hφ
  refine gT [box b3 _,box b7 _,box b8 _,rowl _ _ _ _ _ _] U (Jg fun N15 hN15 => Jk (Jd (Me U U) U U U (Ja (hN15 _ _ (Jb [(1,.int _ _),(3,.pointer _),(7,.pointer _),(9,.slice Av _ cv),(26,.slice _ _ _),(27,.int _ _),(28,.int _ _),(29,.bool _)] ⟨U,U,U,U,U,U,U,U,O⟩ fun σ => Jg fun N16 hN16 => ?_)))))
  refine Jt (b := _) U (fun hc29 => ?_) (fun hc29 => ?_)
  replace hc29 := odt hc29
  have hk1 : k < ps.length := by omega
  obtain ⟨ad,rfl,-,hca⟩ := hps.at_ hk1
  refine Jw (hN16 _ _ (Jb [(1,.int _ _),(3,.pointer _),(7,.pointer _),(9,.slice Av _ cv),(26,.slice _ _ _),(27,.int _ _),(28,.int _ _)] ⟨U,U,U,U,U,U,U,O⟩ fun σ => Jg fun N17 hN17 => Kn (Jg fun N18 hN18 => Jk (Jd (Jf U) U U U (Jd (Jz (m := k) Tryz.underlying22 Tryz.sizeOf9 U U (by omega) (by omega) (by omega)) U U U (Jd (Jq Tryz.isAgg9 U (Ms (hca 0 _ U))) U U U (Jd (Jh U) U U U (Jd (Ul U) U U U ?_))))))))
  refine Ja (hN18 _ _ (Jb [(1,.int _ _),(3,.pointer _),(7,.pointer _),(9,.slice Av _ cv),(10,.int _ _),(11,.string _),(26,.slice _ _ _),(27,.int _ _),(28,.int _ _)] ⟨U,U,U,U,U,U,U,U,U,O⟩ fun σ => Jg fun N19 hN19 => Jg fun N20 hN20 => Jk (Jd (Ku U) U U U ?_)))
  refine Km (Kb (vs := [.string _]) Tryz.func44 U (by kernel_rfl) U) (fun w hM => Wb w _) U U U ?_
  refine Jd (Mp U) U U U (Ja (hN20 _ _ (Jb [(1,.int _ _),(3,.pointer _),(7,.pointer _),(9,.slice Av _ cv),(10,.int _ _),(11,.string _),(26,.slice _ _ _),(27,.int _ _),(28,.int _ _),(35,.bool _)] ⟨U,U,U,U,U,U,U,U,U,U,O⟩ fun σ => ?_)))
  refine Jt (b := _) U (fun hc35 => ?_) (fun hc35 => ?_)
  replace hc35 := Ub hc35
  have hF : approveF (fpl fs) u ps = ⟨12,k⟩ := by rw [hFS,Uf hk1 (fun j h hj => hz j h hj) (by rw [okPath,if_neg (by simpa using hc35)]; decide),okPath,if_neg (by simpa using hc35)]
  refine Jg fun N21 hN21 => Jk (Jd (Jf U) U U U (Jd (Kd (vs := [(0,_),(1,.int _ _)]) (cells := #[_,_]) U (Ma _ _)) U U U (Jd (Kq U) U U U (Jr 1 (v := .agg #[_,_]) (cs' := #[_,_]) U U Tryz.sizeOf33 U U U U (leb U) U U (Ja (hN21 _ _ (gT [box b3 _,box b7 _,box b8 _,rowl _ _ _ _ _ _] U (Jb [(6,.slice _ _ _),(7,.pointer _)] ⟨U,U,O⟩ fun σ => ?_))))))))
  refine Ke fun w1 hM => ?_
  refine ⟨_,res2 rfl (rt (v := .slice _ _ _) rfl) (rc 1 (cs := [_,_]) hM rfl rfl Tryz.isAgg33 Tryz.sizeOf33 rfl),?_⟩
  exact ⟨_,_,by rw [hF],by rw [approveV,if_neg (by rw [hF]; exact fun h => absurd (congrArg Fault.code h) (show ¬ (12 : Int) = 0 by decide))]; rfl,(Qa apprCells 70 3 hM).dropTo 4 rfl⟩
  replace hc35 := Ue hc35
  have hpk : okPath k ps[k] = 0 := if_pos (by simpa using hc35)
  refine Jw (hN19 _ _ (Jb [(1,.int _ _),(3,.pointer _),(7,.pointer _),(9,.slice Av _ cv),(11,.string _),(26,.slice _ _ _),(27,.int _ _),(28,.int _ _)] ⟨U,U,U,U,U,U,U,U,O⟩ fun σ => Jk (Jd (Ju (v := .slice Av _ cv) U) U U U (Jd (Jf U) U U U (Jd (Ku U) U U U (Jd (Kk (cs := [_]) Tryz.isAgg61 Tryz.sizeOf61 U U (Kf 0 U)) U U U (Jd (Ku U) U U U ?_)))))))
  refine Km (Kb (vs := [.agg #[_],.string _]) Tryz.func37 U (by kernel_rfl) U) (fun w hM => describe_any w _ c fs (hR.base hM) v ps[k]) U U U ?_
  refine Jd (Kd (vs := [(0,.int _ _),(1,.string _),(2,.int _ _)]) (cells := #[_,_,_]) U (bd70_0_1_2 _ _ _)) U U U ?_
  refine Qo (vs := [.agg #[_,_,_]]) (cells := #[_,_,_]) Tryz.underlying58 Tryz.sizeOf70 Tryz.zeroValue70 U (by decide) (by decide) U U U U (fun b45 hb45 => ?_)
  refine Qj 3 (f := apprCells) (l2 := [(⟨u,ps[k],descP (fpl fs) ps[k]⟩ : Appr)]) Tryz.underlying58 el70 wide_appr (v := .slice Av _ cv) U U U U (fun h => by cases h) (by simp [maxLen,approveL]; omega) (by simp [approveL]; omega) (Wp 4 U U) U (fun v46 => ?_)
  refine Ky (fun w hM => Ug (hM.own 3 U)) ?_
  rintro ⟨A46,c46,rfl,hc46,hm46⟩
  refine Jd (Kx (v := .slice A46 _ c46) U) U U U (Ja (hN17 _ _ (gT [box b3 _,box b7 _,box b8 _,rowl _ _ _ _ _ _,box b45 _] U (Jb [(1,.int _ _),(3,.pointer _),(7,.pointer _),(9,.slice A46 _ c46),(26,.slice _ _ _),(27,.int _ _),(28,.int _ _)] ⟨U,U,U,U,U,U,U,O⟩ fun σ => Jk (Jd (Kr U U ⟨by omega,by omega⟩) U U U (Jd (Jf U) U U U (Ja ?_)))))))
  rw [← QK hk1]
  refine Kt ((k + 1,A46,c46)) (by show ps.length - (k + 1) < ps.length - k; omega) (⟨by show k + 1 ≤ _; omega,fun j h hj => by rcases Nat.lt_succ_iff_lt_or_eq.1 hj with h1 | rfl; exact hz j h h1; exact hpk⟩) ⟨(by rw [QK hk1]; rfl),U,trivial⟩ ⟨U,U,U,U,U,O⟩ ⟨_,U⟩
  replace hc29 := odf hc29
  have hF : approveF (fpl fs) u ps = ⟨0,0⟩ := by rw [hFS]; exact Qy (fun j hj => hz j hj (by omega))
  refine Mx ?_
  refine hN13 _ _ (Jb [(7,.pointer _),(9,.slice Av _ cv)] ⟨U,U,O⟩ fun σ => Jg fun N22 hN22 => Jk (Jd (Ju (v := .slice Av _ cv) U) U U U (Jd (Kd (vs := []) (cells := #[.int .i64 0,.int .i64 0]) U Qh) U U U (Jd (Kx (v := .slice Av _ cv) U) U U U (Jr 1 (v := .agg #[_,_]) (cs' := #[_,_]) U U Tryz.sizeOf33 U U U U (leb U) U U (Ja (hN22 _ _ (gT [box b3 _,box b7 _,box b8 _,rowl _ _ _ _ _ _] U ?_))))))))
  refine Jb [(6,.slice Av _ cv),(7,.pointer _)] ⟨U,U,O⟩ fun σ => ?_
  refine Ke fun w1 hM => ?_
  refine ⟨_,res2 rfl (rt (v := .slice Av _ cv) rfl) (rc 1 (cs := [_,_]) hM rfl rfl Tryz.isAgg33 Tryz.sizeOf33 rfl),?_⟩
  have hke : ps.take k = ps := List.take_of_length_le (by omega)
  rw [hke] at hM
  exact ⟨_,_,by rw [hF,hke],by rw [approveV,if_pos hF]; rfl,hM.dropTo 3 rfl⟩
end Go.Proofs.YtbkameioedmlkaaGreatDoor
