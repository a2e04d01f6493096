/- The row of the law ParseCochain: for every input it returns true, and each argument reads behind the call as it read before. No condition. -/
import Derived.Test.YtacipknfhoadoaaDoorRows
import Derived.Test.YtacipknfhoadoaaDoorCards
import Derived.Test.YtacipknfhoadoaaDoorTie
import Derived.Handed
import Derived.Lay
import Derived.LaidLaws
import Derived.MakeChecks
import Derived.SevenTiedAt
import Derived.LaidHandle
import Derived.ChangeMaps5
import Derived.WalkKit
import Derived.ProofKit
import Derived.OpenShut
import Derived.ShutString
import Derived.ChangeOld
import Derived.Below
import Derived.SizedLaws
import Derived.Carry
import Derived.Lib.SmallJoins
import Derived.Test.YtacipknfhoadoaaDoorKParseCochain6
import Derived.Test.YtacipknfhoadoaaDoorKParseCochain8
import Derived.Test.YtacipknfhoadoaaDoorKParseCochain10
namespace Go.Proofs.YtacipknfhoadoaaDoor.fnExactParseCochain
open Go.ChangeShapes Go.WideShapes Go.ChangeAt Go.RowKit Go.Joins
open Go.ChangeMaps (open_string shut_string)
open Go.Proofs.YtacipknfhoadoaaDoor.D Go.Proofs.YtacipknfhoadoaaDoor.P
set_option linter.unusedVariables false
theorem own : ownKnob Tryd.prog.godebug = none := by kernel_rfl
theorem laidOut : laidOutB Tryd.prog = true := by kernel_rfl
def laid : List (String × DataW Unit) := [("unicode/utf8.acceptRanges", Rows.laid_unicode_utf8_acceptRanges), ("unicode/utf8.first", Rows.laid_unicode_utf8_first)]
theorem called (W : World) {l0_0 : List (List Int)} {v0_0 : Value} (r0_0 : Rep (Zw W) W false (.sl 25 (.sl 2 (.int .i64))) l0_0 [v0_0] No) {a1_0 : Int} {v1_0 : Value} (r1_0 : Rep (Zw W) W false (.int .i64) a1_0 [v1_0] No) {l1_1 : List Int} {v1_1 : Value} (r1_1 : Rep (Zw W) W false (.sl 2 (.int .i64)) l1_1 [v1_1] No) (a2 : ByteArray) (hk : laws_FnExactParseCochain.f l0_0 a1_0 l1_1 a2 = some true) : Calls Tryd.prog 4 #[.agg #[v0_0], .agg #[v1_0, v1_1], .string a2] W fun e W' => e = .returned (.bool true) ∧ Below W.heap.size W W' := by
  have e : laws_FnExactParseCochain.con.f (l0_0, a1_0, l1_1, a2, ()) = laws_FnExactParseCochain.f l0_0 a1_0 l1_1 a2 := by kernel_rfl
  have ha : ASRs Tryd.prog No (Zw W) W laws_FnExactParseCochain.fn.ins (l0_0, a1_0, l1_1, a2, ()) [.agg #[v0_0], .agg #[v1_0, v1_1], .string a2] No := (args_agg1 r0_0 (args_agg2 r1_0 r1_1 (args_one (t := .str) rfl args_nil)))
  exact law_true (c := laws_FnExactParseCochain.con) laws_FnExactParseCochain.valid (e.trans hk) ha rfl (fun y hy => by cases hy; rfl)
set_option maxRecDepth 100000 in
theorem lifted (os : Os) (started : os.Started) (H : Type) (enc : TypeId × Value → H) :
    ReturnsInHanded {} Tryd.checked os 4 .any (fun w args => (Rows.fnExactParseCochainSpec.pre enc Tryd.prog Tryd.f4 [] false w args ∧ laidMetH Tryd.prog laid w) ∧ sizedMet enc Tryd.prog Tryd.f4 (OpenSpec.ofChange Rows.fnExactParseCochainSpec) false w args) (Rows.fnExactParseCochainSpec.post enc Tryd.prog Tryd.f4 false true false false) := by
  refine returnsInHanded_of_change_and (C := Tryd.checked) (X := fun w _ => laidMetH Tryd.prog laid w) (fun _ _ _ hh h => h.of_heap hh) own started (by kernel_rfl) Tryd.func4
    (ChangeSpec.witness_shaped (enc := enc) (C := Tryd.checked) (os := os) (X := fun w _ => laidMetH Tryd.prog laid w) false (World.laidAll Tryd.prog os laid) #[.agg #[.slice none 0 0], .agg #[.int .i64 0, .slice none 0 0], .string ByteArray.empty] 8 (World.laidAll_os _ _ _)
      (World.shaped_of_ZipB (by kernel_rfl) (by kernel_rfl)) (by kernel_rfl) (by kernel_rfl) (by kernel_rfl)
      (by rw [MakeChecks.laidMetH_plain _ _ _ (by kernel_rfl)]; exact laidMet_laidAll _ (by kernel_rfl) (by kernel_rfl))) ?_
  intro W base args ds gs before hval0 hW hcnd hsz0 hL _
  have hsz : (DataW.weightsEach Tryd.prog (Tryd.f4.params.toList ++ Rows.fnExactParseCochainSpec.plain.varTypes Tryd.prog) (ds ++ gs)).all (· ≤ reachBytes) = true := hsz0
  have hval : ∀ (j : Nat) t v, Tryd.f4.params[j]? = some t → args[j]? = some v → Value.okWide Tryd.prog W .any base t v := hval0
  have hW' := hW
  obtain ⟨p, q, hA0, hV, rfl, hfz, hnd⟩ := hW
  have hA : DataW.TrodAll enc Tryd.prog W 0 (fun _ => true) true Tryd.f4.params.toList args.toList ds p := hA0
  rw [Tryd.params4] at hA hval hsz
  obtain ⟨v0, vs0, d0, ds0, p0, q0, hargs, rfl, rfl, h0, tr0⟩ := trodAll_cons hA
  obtain ⟨v1, vs1, d1, ds1, p1, q1, rfl, rfl, rfl, h1, tr1⟩ := trodAll_cons tr0
  obtain ⟨v2, vs2, d2, ds2, p2, q2, rfl, rfl, rfl, h2, tr2⟩ := trodAll_cons tr1
  obtain ⟨rfl, rfl, rfl⟩ := trodAll_nil tr2
  obtain rfl : args = #[v0, v1, v2] := by cases args; simp_all
  obtain ⟨rfl, rfl⟩ := trodVars_none hV
  have k0 := h0
  have lt0 : ∀ x ∈ p0, x.block < W.heap.size := by obtain ⟨m, hm⟩ := k0; exact DataW.trod_lt m _ _ _ hm
  obtain ⟨v0_0, z0_0, n0, rfl, t0_0⟩ := open_agg1 Tryd.underlying24 (by kernel_rfl) (by kernel_rfl) (hval 0 24 v0 rfl rfl) h0
  obtain ⟨l0_0, m0_0, w0_0, r0_0⟩ := come_rows Tryd.underlying22 Tryd.underlying25 Tryd.underlying2 (by kernel_rfl) (by kernel_rfl) t0_0
  have k1 := h1
  have lt1 : ∀ x ∈ p1, x.block < W.heap.size := by obtain ⟨m, hm⟩ := k1; exact DataW.trod_lt m _ _ _ hm
  obtain ⟨v1_0, v1_1, z1_0, z1_1, n1, rfl, -, -, t1_0, t1_1⟩ := open_agg2 Tryd.underlying27 (by kernel_rfl) (by kernel_rfl) (hval 1 27 v1 rfl rfl) h1
  obtain ⟨a1_0, w1_0, r1_0⟩ := come_int Tryd.underlying2 t1_0
  obtain ⟨l1_1, m1_1, w1_1, r1_1⟩ := come_ints Tryd.underlying25 Tryd.underlying2 (by kernel_rfl) t1_1
  obtain ⟨a2, rfl, rfl, rfl, w2⟩ := open_string Tryd.underlying9 (hval 2 9 v2 rfl rfl) h2
  clear hA0 hval0 hsz0 hsz
  have hk := Pure.FnExactParseCochain_pure l0_0 a1_0 l1_1 a2 m0_0 w0_0 w1_0 m1_1 w1_1 w2
  have hk : laws_FnExactParseCochain.f l0_0 a1_0 l1_1 a2 = some true := hk
  refine (called W r0_0 r1_0 r1_1 a2 hk).mono fun e W' ⟨he, bel⟩ => ?_
  subst he
  exact ⟨_, rfl, _, _, _, [], _, [], hW', trodAll_mk1 (shut_bool Tryd.underlying4 _), (trodAll_cons_mk (Below.trod laidOut (by kernel_rfl) (of_decide_eq_true (by kernel_rfl)) k0 bel lt0) (trodAll_cons_mk (Below.trod laidOut (by kernel_rfl) (of_decide_eq_true (by kernel_rfl)) k1 bel lt1) (trodAll_cons_mk (shut_string Tryd.underlying9 w2) trodAll_mk0))), rfl, bel.frame _, fun h => by cases h⟩
theorem closed : joinedFacts Tryd.pinned.checked.prog 4 Tryd.f4 Rows.fnExactParseCochainSpec Rows.fnExactParseCochainRow = true := by
  unfold joinedFacts
  rw [shut.mayEnter, show (Rows.fnExactParseCochainRow.lifted == Tryd.pinned.checked.prog.liftsFinal) = true from shut.lifted, show (Tryd.pinned.checked.prog.make == some Rows.fnExactParseCochainRow.make) = true from shut.make]
  kernel_rfl
theorem over : Rows.fnExactParseCochainRow.holds Tryd.pinned (OpenSpec.ofChange Rows.fnExactParseCochainSpec) :=
  OpenClaim.holds_of_wide 4 Tryd.f4 rfl rfl rfl rfl rfl rfl rfl ⟨rfl, rfl, rfl, rfl, rfl⟩ rfl rfl rfl rfl rfl (by kernel_rfl) Tryd.func4 closed
    (of_decide_eq_true (by kernel_rfl)) (by unfold Func.isWrapper; first | (rw [if_pos (by decide +kernel)]; kernel_rfl) | (rw [if_neg (by decide +kernel)]; exact ⟨rfl, rfl⟩))
    (fun os started H enc _ => lifted os started H enc)
theorem card : Rows.FnExactParseCochainCardSaid :=
  Claim7.holds_tied_plain_at .later [] [.data, .pinned] true (true, "ea46356f37aaabb87fc0e735a6e66137ed7da8492c67c6719da53cc43d0e6629") false over (fun _ h => by cases h) (by kernel_rfl) (fun _ h => by cases h) fnExactParseCochain_row_tie rfl ⟨rfl, rfl⟩ (by kernel_rfl) rfl
    (fun f fn hf hfn => by
      obtain rfl : f = 4 := Option.some.inj ((show Tryd.prog.funcNamed Rows.fnExactParseCochainRow.func = some 4 by kernel_rfl).symm.trans hf) |>.symm
      obtain rfl : fn = Tryd.f4 := (Option.some.inj (Tryd.func4.symm.trans hfn)).symm
      exact ⟨by kernel_rfl, fun j t ht => by
        rw [Tryd.params4] at ht
        have hm : t ∈ [24, 27, 9] := by simpa using Array.mem_of_getElem? ht
        have hall : ([24, 27, 9].all fun u => !Tryd.prog.wantsStandIn u) = true := by kernel_rfl
        exact (show Tryd.prog.wantsStandIn t = false by simpa using List.all_eq_true.1 hall t hm)⟩)
    (by kernel_rfl)
#print axioms card
end Go.Proofs.YtacipknfhoadoaaDoor.fnExactParseCochain
namespace Go.Proofs.YtacipknfhoadoaaDoor
theorem fnExactParseCochain_holds : Rows.FnExactParseCochainCardSaid := fnExactParseCochain.card
end Go.Proofs.YtacipknfhoadoaaDoor
