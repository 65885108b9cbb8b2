/-
  PolicyNormalIsEquivalent: for all policies and facts the law returns true (the tied card).
-/
import Derived.Test.YtllblbkbglifjaaDoorP33c
import Derived.Deep.DeepHandedRow
import Derived.Lib.LaidTab
import Derived.Test.YtllblbkbglifjaaDoorCards
import Derived.Test.YtllblbkbglifjaaDoorProg
import Derived.Test.YtllblbkbglifjaaDoorTie
namespace Go.Cf
structure PolC where
  A : Option Addr
  c : Nat
  l : List PN
abbrev polCells (a : PolC) : List Value := [.slice a.A a.l.length a.c]
abbrev factCells (F : PFacts) : List Value := [.int .i64 F.score, .bool F.owners, .bool F.tests, .int .i64 F.users]
end Go.Cf
namespace Go.Proofs.YtllblbkbglifjaaDoor
open Go.ChangeShapes Go.WideShapes Go.ChangeAt Go.RowKit Go.Cf
set_option maxRecDepth 100000
theorem cp_int : Tryd.prog.cellsOf 3 = 1 := by kernel_rfl
theorem cp_bool : Tryd.prog.cellsOf 4 = 1 := by kernel_rfl
theorem cp_nodes : Tryd.prog.cellsOf 22 = 1 := by kernel_rfl
theorem el_node {H : Type} {enc : TypeId × Value → H} {w : World} : ∀ (n : Nat) (cs : List Value) (x : DataW H × List MemPlace), DataW.trod enc Tryd.prog w 0 (fun _ => true) true n 47 cs = some x →
    (x.1.weights Tryd.prog 47).all (· ≤ reachBytes) = true → ∃ a : PN, cs = pnCells a ∧ True := by
  intro n cs x h hw
  obtain ⟨m, hlen, hf⟩ := rd_struct Tryd.underlying47 h hw
  have hl : cs.length = 4 := hlen.trans (by kernel_rfl)
  match cs, hl with
  | [c0, c1, c2, c3], _ =>
    obtain ⟨y0, f0, _⟩ := hf 0 _ rfl
    obtain ⟨y1, f1, _⟩ := hf 1 _ rfl
    obtain ⟨y2, f2, _⟩ := hf 2 _ rfl
    obtain ⟨y3, f3, _⟩ := hf 3 _ rfl
    simp [cp_int] at f0 f1 f2 f3
    obtain ⟨a0, e0, _, b0⟩ := DataW.trod_int Tryd.underlying3 f0
    obtain ⟨a1, e1, _, b1⟩ := DataW.trod_int Tryd.underlying3 f1
    obtain ⟨a2, e2, _, b2⟩ := DataW.trod_int Tryd.underlying3 f2
    obtain ⟨a3, e3, _, b3⟩ := DataW.trod_int Tryd.underlying3 f3
    simp at e0 e1 e2 e3
    subst e0 e1 e2 e3
    exact ⟨⟨a0, a1, a2, a3⟩, rfl, trivial⟩
theorem el_pol {H : Type} {enc : TypeId × Value → H} {w : World} : ∀ (n : Nat) (cs : List Value) (x : DataW H × List MemPlace), DataW.trod enc Tryd.prog w 0 (fun _ => true) true n 24 cs = some x →
    (x.1.weights Tryd.prog 24).all (· ≤ reachBytes) = true → ∃ a : PolC, cs = polCells a ∧ (Rdl w 0 4 pnCells a.A a.l ∧ a.l.length ≤ a.c ∧ a.c ≤ maxLen) := by
  intro n cs x h hw
  obtain ⟨m, hlen, hf⟩ := rd_struct Tryd.underlying24 h hw
  have hl : cs.length = 1 := hlen.trans (by kernel_rfl)
  match cs, hl with
  | [c0], _ =>
    obtain ⟨y0, f0, w0⟩ := hf 0 _ rfl
    simp [cp_nodes] at f0
    obtain ⟨A1, c1', l1, e1, r1, s1, m1, n1, t1, q1⟩ := rd_cells Tryd.underlying22 (by kernel_rfl) el_node f0 w0
    simp at e1
    subst e1
    exact ⟨⟨A1, c1', l1⟩, rfl, r1, s1, m1⟩
theorem el_facts {H : Type} {enc : TypeId × Value → H} {w : World} : ∀ (n : Nat) (cs : List Value) (x : DataW H × List MemPlace), DataW.trod enc Tryd.prog w 0 (fun _ => true) true n 26 cs = some x →
    (x.1.weights Tryd.prog 26).all (· ≤ reachBytes) = true → ∃ a : PFacts, cs = factCells a ∧ True := by
  intro n cs x h hw
  obtain ⟨m, hlen, hf⟩ := rd_struct Tryd.underlying26 h hw
  have hl : cs.length = 4 := hlen.trans (by kernel_rfl)
  match cs, hl with
  | [c0, c1, c2, c3], _ =>
    obtain ⟨y0, f0, _⟩ := hf 0 _ rfl
    obtain ⟨y1, f1, _⟩ := hf 1 _ rfl
    obtain ⟨y2, f2, _⟩ := hf 2 _ rfl
    obtain ⟨y3, f3, _⟩ := hf 3 _ rfl
    simp [cp_int, cp_bool] at f0 f1 f2 f3
    obtain ⟨a0, e0, _, b0⟩ := DataW.trod_int Tryd.underlying3 f0
    obtain ⟨a1, e1, _⟩ := DataW.trod_bool Tryd.underlying4 f1
    obtain ⟨a2, e2, _⟩ := DataW.trod_bool Tryd.underlying4 f2
    obtain ⟨a3, e3, _, b3⟩ := DataW.trod_int Tryd.underlying3 f3
    simp at e0 e1 e2 e3
    subst e0 e1 e2 e3
    exact ⟨⟨a0, a1, a2, a3⟩, rfl, trivial⟩
end Go.Proofs.YtllblbkbglifjaaDoor
namespace Go.Cf
open Go.ChangeShapes Go.WideShapes Go.ChangeAt Go.RowKit Go.Deep
theorem law_lift_row {H : Type} {enc : TypeId × Value → H} {C : Checked} {os : Os} {f : FuncId} {fn : Func} {s : OpenSpec} {F : Stop.Interp} {conds : List PathCond} {tb : TypeId} {laid : List (String × DataW Unit)}
    (own : ownKnob C.prog.godebug = none) (started : os.Started) (noInit : C.prog.inits.idxOf? f = none) (hfn : C.prog.funcs[f]? = some fn)
    (witness : ∃ (w : World) (tape : Tape) (i : Input), w.os = os ∧ (w.forCall tape i).Shaped C.prog ∧ i.vars = [] ∧ Input.okWide C.prog (w.forCall tape i) .any w.heap.size f i ∧
      s.preRow enc C.prog fn conds false laid (w.forCall tape i).memory i.args ∧ Assume.holds {} C.prog (lone (Frame.enter C.prog f i.args .normal) [] (w.forCall tape i)))
    (hl : laidOutB C.prog = true) (hread : (fn.params.toList.all fun t => C.prog.readableRec t && decide (t < C.prog.types.size)) = true) (hres : fn.resultTypes = #[tb]) (htb : C.prog.underlying tb = some .bool) (hvars : s.vars = []) (hvars0 : (s.at F).vars = []) (hvt : s.bare.plain.varTypes C.prog = [])
    (hspec : ∀ ds : List (DataW H), ds.length = fn.params.size → ((s.at F).fn H (ds ++ [])).results = [.lit (.bool true)] ∧ ((s.at F).fn H (ds ++ [])).args = ds ∧ ((s.at F).fn H (ds ++ [])).vars = [])
    (contract : ∀ (W : World) (base : Nat) (args : Array Value) (ds : List (DataW H)) (p : List MemPlace),
      (∀ (j : Nat) t v, fn.params[j]? = some t → args[j]? = some v → Value.okWide C.prog W .any base t v) → DataW.TrodAll enc C.prog W 0 (fun _ => true) true fn.params.toList args.toList ds p →
      (DataW.weightsEach C.prog fn.params.toList ds).all (· ≤ reachBytes) = true → (∀ k, s.cond = some k → k H ds = true) → laidMetH C.prog laid W →
      Calls C.prog f args W fun e W' => e = .returned (.bool true) ∧ Below W.heap.size W W') :
    ReturnsInHanded {} C os f .any (s.preRow enc C.prog fn conds false laid) ((s.at F).post enc C.prog fn false true false false) := by
  refine returnsInHanded_of_row own started noInit hfn witness ?_
  intro W base args ds gs before hval hW _ hkk hsz hL _ _
  have hW' := hW
  obtain ⟨p, q, hA, hV, rfl, _, _⟩ := hW
  rw [hvars] at hV
  obtain ⟨rfl, rfl⟩ := trodVars_none hV
  have hlen : ds.length = fn.params.size := by
    have key : ∀ (ts : List TypeId) (vs : List Value) (ds : List (DataW H)) (p : List MemPlace), DataW.TrodAll enc C.prog W 0 (fun _ => true) true ts vs ds p → ds.length = ts.length := by
      intro ts
      induction ts with
      | nil => intro vs ds p h; obtain ⟨_, rfl, _⟩ := trodAll_nil h; rfl
      | cons t ts ih => intro vs ds p h; obtain ⟨v, vs', d, ds', p, q, rfl, rfl, rfl, _, h2⟩ := trodAll_cons h; simp [ih _ _ _ h2]
    rw [key _ _ _ _ hA]; simp
  have hw : (DataW.weightsEach C.prog fn.params.toList ds).all (· ≤ reachBytes) = true := by
    simpa [hvt] using hsz
  refine (contract W base args ds p hval hA hw (fun k hk => by simpa using hkk k hk) hL).mono fun e W' ⟨he, bel⟩ => ?_
  subst he
  obtain ⟨h1, h2, h3⟩ := hspec ds hlen
  have hr : ∀ t ∈ fn.params.toList, C.prog.readableRec t = true ∧ t < C.prog.types.size := by
    intro t ht
    have := List.all_eq_true.1 hread t ht
    simpa using this
  refine ⟨_, rfl, ds, [], p ++ [], [], p, [], hW', ?_, ?_, ?_, World.keptBut_mono (fun x hx => ⟨hx, ?_⟩) (bel.frame (· ∈ p ++ [])), fun h => by cases h⟩
  · rw [h1, hres]; exact trodAll_mk1 (shut_bool htb _)
  · rw [h2]; exact trodAll_below hl bel hr hA
  · rw [h3, hvars0]; rfl
  · right; left; simpa using hx
end Go.Cf
namespace Go.Proofs.YtllblbkbglifjaaDoor
open Go.ChangeShapes Go.WideShapes Go.ChangeAt Go.RowKit Go.Cf
set_option maxRecDepth 100000 in
theorem policyNormalIsEquivalent_lifted (os : Os) (started : os.Started) (H : Type) (enc : TypeId × Value → H) (F : Stop.Interp) :
    ReturnsInHanded {} Tryd.checked os 6 .any ((OpenSpec.ofChange Rows.policyNormalIsEquivalentSpec).preRow enc Tryd.prog Tryd.f6 Rows.policyNormalIsEquivalentRow.domain false Rows.policyNormalIsEquivalentRow.laid) (((OpenSpec.ofChange Rows.policyNormalIsEquivalentSpec).at F).post enc Tryd.prog Tryd.f6 false true false false) := by
  refine law_lift_row (C := Tryd.checked) (s := OpenSpec.ofChange Rows.policyNormalIsEquivalentSpec) (tb := 4) (by kernel_rfl) started (by kernel_rfl) Tryd.func6
    (witness_row_at (enc := enc) (C := Tryd.checked) false ({ (World.holding Tryd.prog os ⟨#[.cells #[.string ⟨#[118, 97, 108, 117, 101, 32, 111, 117, 116, 32, 111, 102, 32, 114, 97, 110, 103, 101]⟩] 123, .cells #[.string ⟨#[105, 110, 118, 97, 108, 105, 100, 32, 115, 121, 110, 116, 97, 120]⟩] 123], #[], []⟩) with heap := ((((((World.holding Tryd.prog os ⟨#[.cells #[.string ⟨#[118, 97, 108, 117, 101, 32, 111, 117, 116, 32, 111, 102, 32, 114, 97, 110, 103, 101]⟩] 123, .cells #[.string ⟨#[105, 110, 118, 97, 108, 105, 100, 32, 115, 121, 110, 116, 97, 120]⟩] 123], #[], []⟩).heap).modify 4 (fun | .cells _ t fz => .cells ((([0, 1, 28, 2, 29, 14, 24, 3, 30, 22, 20, 15, 25, 17, 4, 8, 31, 27, 13, 23, 21, 19, 16, 7, 26, 12, 18, 6, 11, 5, 10, 9] : List Nat).map fun n : Nat => Value.int .u8 (n : Int)).toArray) t fz | o => o)).modify 5 (fun | .cells _ t fz => .cells ((([0, 1, 56, 2, 57, 49, 28, 3, 61, 58, 42, 50, 38, 29, 17, 4, 62, 47, 59, 36, 45, 43, 51, 22, 53, 39, 33, 30, 24, 18, 12, 5, 63, 55, 48, 27, 60, 41, 37, 16, 46, 35, 44, 21, 52, 32, 23, 11, 54, 26, 40, 15, 34, 20, 31, 10, 25, 14, 19, 9, 13, 8, 7, 6] : List Nat).map fun n : Nat => Value.int .u8 (n : Int)).toArray) t fz | o => o)).modify 1 (fun | .cells _ t fz => .cells ((([1, 10, 100, 1000, 10000, 100000, 1000000, 10000000, 100000000, 1000000000, 10000000000, 100000000000, 1000000000000, 10000000000000, 100000000000000, 1000000000000000, 10000000000000000, 100000000000000000, 1000000000000000000, 10000000000000000000] : List Nat).map fun n : Nat => Value.int .u64 (n : Int)).toArray) t fz | o => o)).modify 3 (fun | .cells _ t fz => .cells (#[.iface 121 (.pointer (some ⟨11, 0, none⟩))]) t fz | o => o)).modify 2 (fun | .cells _ t fz => .cells (#[.iface 121 (.pointer (some ⟨12, 0, none⟩))]) t fz | o => o) } : World) #[.agg #[.slice none 0 0], .agg #[.int .i64 0, .bool false, .bool false, .int .i64 0]] rfl (by kernel_rfl) (by kernel_rfl) (by kernel_rfl)
      (OpenSpec.preRow_of_cond 8 (show DataW.whole enc Tryd.prog _ Tryd.f6.params.toList _ false _ 8 = some ([.agg [.nil], .agg [.lit (.int .i64 0), .lit (.bool false), .lit (.bool false), .lit (.int .i64 0)]], [], []) by kernel_rfl) (by kernel_rfl) (fun k hk => by cases hk) (by kernel_rfl) (laidMet_of_run' 8 (by kernel_rfl) (by kernel_rfl))))
    (by kernel_rfl) (by kernel_rfl) (by kernel_rfl) Tryd.underlying4 rfl rfl rfl ?_ ?_
  · intro ds hds
    rw [show Tryd.f6.params.size = 2 from by rw [Tryd.params6]; rfl] at hds
    match ds, hds with
    | [d0, d1], _ => exact ⟨rfl, rfl, rfl⟩
  · intro W base args ds p hval hA hw hk hL
    rw [show Tryd.f6.params.toList = [24, 26] from by rw [Tryd.params6]] at hA hw
    rw [Tryd.params6] at hval
    obtain ⟨v0, vs0, d0, ds0, p0, q0, hargs, rfl, rfl, h0, r0⟩ := trodAll_cons hA
    obtain ⟨v1, vs1, d1, ds1, p1, q1, rfl, rfl, rfl, h1, r1⟩ := trodAll_cons r0
    obtain ⟨rfl, rfl, rfl⟩ := trodAll_nil r1
    obtain rfl : args = #[v0, v1] := by cases args; simp_all
    obtain ⟨w0, hw⟩ := weights_each hw
    obtain ⟨w1, hw⟩ := weights_each hw
    obtain ⟨⟨A0, c0, l0⟩, rfl, hv0, hlc0, hcm0⟩ := rd_agg Tryd.underlying24 el_pol (hval 0 24 v0 rfl rfl) h0 w0
    obtain ⟨F1, rfl, -⟩ := rd_agg Tryd.underlying26 el_facts (hval 1 26 v1 rfl rfl) h1 w1
    exact law33_any W A0 c0 l0 hv0 hlc0 hcm0 F1 (laidP_of hL)
theorem policyNormalIsEquivalent_said : Rows.PolicyNormalIsEquivalentSaid :=
  OpenClaim.holds_of_cond 6 Tryd.f6 rfl rfl rfl rfl rfl rfl rfl ⟨rfl, rfl, rfl, rfl, rfl⟩ rfl rfl rfl rfl rfl (by kernel_rfl) Tryd.func6 (by kernel_rfl)
    (of_decide_eq_true (by kernel_rfl)) (by unfold Func.isWrapper; first | (rw [if_pos (by decide +kernel)]; kernel_rfl) | (rw [if_neg (by decide +kernel)]; exact ⟨rfl, rfl⟩))
    (fun os started H enc _ F => by rw [OpenClaim.pre_eq_preRow]; exact policyNormalIsEquivalent_lifted os started H enc F)
theorem policyNormalIsEquivalent_plain (f : FuncId) (fn : Func) (hf : Tryd.pinned.checked.prog.funcNamed "changeforge/changeforgelaw7.PolicyNormalIsEquivalent" = some f) (hfn : Tryd.pinned.checked.prog.funcs[f]? = some fn) :
    true = Tryd.pinned.checked.prog.looks [] ∧ ∀ (j : Nat) t, fn.params[j]? = some t → Tryd.pinned.checked.prog.wantsStandIn t = false := by
  obtain rfl : f = 6 := Option.some.inj ((show Tryd.prog.funcNamed "changeforge/changeforgelaw7.PolicyNormalIsEquivalent" = some 6 by kernel_rfl).symm.trans hf) |>.symm
  obtain rfl : fn = Tryd.f6 := (Option.some.inj (Tryd.func6.symm.trans hfn)).symm
  refine ⟨by kernel_rfl, fun j t ht => ?_⟩
  rw [Tryd.params6] at ht
  have hm : t ∈ [24, 26] := by simpa using Array.mem_of_getElem? ht
  have hall : ([24, 26].all fun u => !Tryd.prog.wantsStandIn u) = true := by kernel_rfl
  exact (show Tryd.prog.wantsStandIn t = false by simpa using List.all_eq_true.1 hall t hm)
theorem policyNormalIsEquivalent_holds : Rows.PolicyNormalIsEquivalentCardSaid :=
  Claim7.holds_tied_plain_at .later [] _ _ _ _ policyNormalIsEquivalent_said (fun _ h => by cases h) (by kernel_rfl) (fun _ h => by cases h) policyNormalIsEquivalent_row_tie rfl ⟨rfl, rfl⟩ (by kernel_rfl) rfl policyNormalIsEquivalent_plain (by kernel_rfl)
end Go.Proofs.YtllblbkbglifjaaDoor
