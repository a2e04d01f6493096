/- The row of the law CrossedClasses: for every input it returns true, and each argument reads behind the call as it read before. No condition. -/
import Derived.Test.YtjknpaplgclflaaRows
import Derived.WalkKit
import Derived.ProofKit
import Derived.OpenShut
import Derived.ShutString
import Derived.ChangeOld
import Derived.Below
import Derived.SizedLaws
import Derived.Carry
import Derived.Lib.SmallJoins
import Derived.Test.YtjknpaplgclflaaKCrossedClasses4
import Derived.Test.YtjknpaplgclflaaKCrossedClasses7
import Derived.Test.YtjknpaplgclflaaKCrossedClasses10
set_option linter.unusedVariables false
set_option linter.unusedSimpArgs false
namespace Go.Proofs.Ytjknpaplgclflaa.fnExactCrossedClasses
open Go.ChangeShapes Go.WideShapes Go.ChangeAt Go.RowKit Go.Joins
open Go.ChangeMaps (open_string shut_string)
open Go.Proofs.Ytjknpaplgclflaa.D Go.Proofs.Ytjknpaplgclflaa.P
set_option linter.unusedVariables false
theorem own : ownKnob Try.prog.godebug = none := by kernel_rfl
theorem laidOut : laidOutB Try.prog = true := by kernel_rfl
theorem called (W : World) {l0_0 : List (List Int)} {v0_0 : Value} (r0_0 : Rep (Zw W) W false (.sl 25 (.sl 2 (.int .i64))) l0_0 [v0_0] No) {a1_0 : Int} {v1_0 : Value} (r1_0 : Rep (Zw W) W false (.int .i64) a1_0 [v1_0] No) {l1_1 : List Int} {v1_1 : Value} (r1_1 : Rep (Zw W) W false (.sl 2 (.int .i64)) l1_1 [v1_1] No) (hk : laws_FnExactCrossedClasses.f l0_0 a1_0 l1_1 = some true) : Calls Try.prog 5 #[.agg #[v0_0], .agg #[v1_0, v1_1]] W fun e W' => e = .returned (.bool true) ∧ Below W.heap.size W W' := by
 have e : laws_FnExactCrossedClasses.con.f (l0_0, a1_0, l1_1, ()) = laws_FnExactCrossedClasses.f l0_0 a1_0 l1_1 := by kernel_rfl
 have ha : ASRs Try.prog No (Zw W) W laws_FnExactCrossedClasses.fn.ins (l0_0, a1_0, l1_1, ()) [.agg #[v0_0], .agg #[v1_0, v1_1]] No := (args_agg1 r0_0 (args_agg2 r1_0 r1_1 args_nil))
 exact law_true (c := laws_FnExactCrossedClasses.con) laws_FnExactCrossedClasses.valid (e.trans hk) ha rfl (fun y hy => by cases hy; rfl)
set_option maxRecDepth 100000 in
theorem lifted (os : Os) (started : os.Started) (H : Type) (enc : TypeId × Value → H) :
  ReturnsInHanded {} Try.checked os 5 .any (Rows.fnExactCrossedClassesSpec.pre6 enc Try.prog Try.f5 Rows.fnExactCrossedClassesRow.domain false) (Rows.fnExactCrossedClassesSpec.post enc Try.prog Try.f5 false true false false) := by
 refine returnsInHanded_of_change_sized (C := Try.checked) own started (by kernel_rfl) Try.func5
  (ChangeSpec.witness6 (enc := enc) (C := Try.checked) false ⟨#[], #[.agg #[.slice none 0 0], .agg #[.int .i64 0, .slice none 0 0]], []⟩ 8 (by kernel_rfl) (by kernel_rfl) (by kernel_rfl) (by kernel_rfl)) ?_
 intro W base args ds gs before hval0 hW hcnd hsz0 _
 have hsz : (DataW.weightsEach Try.prog (Try.f5.params.toList ++ Rows.fnExactCrossedClassesSpec.plain.varTypes Try.prog) (ds ++ gs)).all (· ≤ reachBytes) = true := hsz0
 have hval : ∀ (j : Nat) t v, Try.f5.params[j]? = some t → args[j]? = some v → Value.okWide Try.prog W .any base t v := hval0
 have hW' := hW
 obtain ⟨p, q, hA0, hV, rfl, hfz, hnd⟩ := hW
 have hA : DataW.TrodAll enc Try.prog W 0 (fun _ => true) true Try.f5.params.toList args.toList ds p := hA0
 rw [Try.params5] at hA hval hsz
 obtain ⟨v0, vs0, d0, ds0, p0, q0, hargs, rfl, rfl, h0, tr0⟩ := trodAll_cons hA
 obtain ⟨v1, vs1, d1, ds1, p1, q1, rfl, rfl, rfl, h1, tr1⟩ := trodAll_cons tr0
 obtain ⟨rfl, rfl, rfl⟩ := trodAll_nil tr1
 obtain rfl : args = #[v0, v1] := by cases args; simp_all
 obtain ⟨rfl, rfl⟩ := trodVars_none hV
 have k0 := h0
 have lt0 : ∀ x ∈ p0, x.block < W.heap.size := by obtain ⟨m, hm⟩ := k0; exact DataW.trod_lt m _ _ _ hm
 obtain ⟨v0_0, z0_0, n0, rfl, t0_0⟩ := open_agg1 Try.underlying24 (by kernel_rfl) (by kernel_rfl) (hval 0 24 v0 rfl rfl) h0
 obtain ⟨l0_0, m0_0, w0_0, r0_0⟩ := come_rows Try.underlying22 Try.underlying25 Try.underlying2 (by kernel_rfl) (by kernel_rfl) t0_0
 have k1 := h1
 have lt1 : ∀ x ∈ p1, x.block < W.heap.size := by obtain ⟨m, hm⟩ := k1; exact DataW.trod_lt m _ _ _ hm
 obtain ⟨v1_0, v1_1, z1_0, z1_1, n1, rfl, -, -, t1_0, t1_1⟩ := open_agg2 Try.underlying27 (by kernel_rfl) (by kernel_rfl) (hval 1 27 v1 rfl rfl) h1
 obtain ⟨a1_0, w1_0, r1_0⟩ := come_int Try.underlying2 t1_0
 obtain ⟨l1_1, m1_1, w1_1, r1_1⟩ := come_ints Try.underlying25 Try.underlying2 (by kernel_rfl) t1_1
 clear hA0 hval0 hsz0 hsz
 have hk := Pure.FnExactCrossedClasses_pure l0_0 a1_0 l1_1 m0_0 w0_0 w1_0 m1_1 w1_1
 have hk : laws_FnExactCrossedClasses.f l0_0 a1_0 l1_1 = some true := hk
 refine (called W r0_0 r1_0 r1_1 hk).mono fun e W' ⟨he, bel⟩ => ?_
 subst he
 exact ⟨_, rfl, _, _, _, [], _, [], hW', trodAll_mk1 (shut_bool Try.underlying4 _), (trodAll_cons_mk (Below.trod laidOut (by kernel_rfl) (of_decide_eq_true (by kernel_rfl)) k0 bel lt0) (trodAll_cons_mk (Below.trod laidOut (by kernel_rfl) (of_decide_eq_true (by kernel_rfl)) k1 bel lt1) trodAll_mk0)), rfl, bel.frame _, fun h => by cases h⟩
theorem closed : joinedFacts Try.pinned.checked.prog 5 Try.f5 Rows.fnExactCrossedClassesSpec Rows.fnExactCrossedClassesRow = true := by
 unfold joinedFacts
 rw [shut.mayEnter, show (Rows.fnExactCrossedClassesRow.lifted == Try.pinned.checked.prog.liftsFinal) = true from shut.lifted, show (Try.pinned.checked.prog.make == some Rows.fnExactCrossedClassesRow.make) = true from shut.make]
 kernel_rfl
theorem over : Rows.fnExactCrossedClassesRow.holds Try.pinned (OpenSpec.ofChange Rows.fnExactCrossedClassesSpec) :=
 OpenClaim.holds_of_wide 5 Try.f5 rfl rfl rfl rfl rfl rfl rfl ⟨rfl, rfl, rfl, rfl, rfl⟩ rfl rfl rfl rfl rfl (by kernel_rfl) Try.func5 closed
  (of_decide_eq_true (by kernel_rfl)) (by unfold Func.isWrapper; first | (rw [if_pos (by decide +kernel)]; kernel_rfl) | (rw [if_neg (by decide +kernel)]; exact ⟨rfl, rfl⟩))
  (fun os started H enc _ => lifted os started H enc)
theorem proved : Rows.FnExactCrossedClassesSaid := over
#print axioms proved
end Go.Proofs.Ytjknpaplgclflaa.fnExactCrossedClasses
namespace Go.Proofs.Ytjknpaplgclflaa
theorem fnExactCrossedClasses_holds : Rows.FnExactCrossedClassesSaid := fnExactCrossedClasses.proved
end Go.Proofs.Ytjknpaplgclflaa
