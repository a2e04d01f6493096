/- The row of the law FactorSetOfChoice: for every input it returns true, and each argument reads behind the call as it read before. No condition. -/
import Derived.Test.YtlkdhmijgpadaaaRows
import Derived.WalkKit
import Derived.ProofKit
import Derived.OpenShut
import Derived.ShutString
import Derived.ChangeOld
import Derived.Below
import Derived.SizedLaws
import Derived.Carry
import Derived.Lib.SmallJoins
import Derived.Test.YtlkdhmijgpadaaaKFactorSetOfChoice6
import Derived.Test.YtlkdhmijgpadaaaKFactorSetOfChoice7
namespace Go.Proofs.Ytlkdhmijgpadaaa.fnExactFactorSetOfChoice
open Go.ChangeShapes Go.WideShapes Go.ChangeAt Go.RowKit Go.Joins
open Go.ChangeMaps (open_string shut_string)
open Go.Proofs.Ytlkdhmijgpadaaa.D Go.Proofs.Ytlkdhmijgpadaaa.P
set_option linter.unusedVariables false
theorem own : ownKnob Try.prog.godebug = none := by kernel_rfl
theorem laidOut : laidOutB Try.prog = true := by kernel_rfl
theorem called (W : World) {l0_0 : List (List Int)} {v0_0 : Value} (r0_0 : Rep (Zw W) W false (.sl 25 (.sl 2 (.int .i64))) l0_0 [v0_0] No) (a1 : Int) (hk : laws_FnExactFactorSetOfChoice.f l0_0 a1 = some true) : Calls Try.prog 6 #[.agg #[v0_0], .int .i64 a1] W fun e W' => e = .returned (.bool true) ∧ Below W.heap.size W W' := by
  have e : laws_FnExactFactorSetOfChoice.con.f (l0_0, a1, ()) = laws_FnExactFactorSetOfChoice.f l0_0 a1 := by kernel_rfl
  have ha : ASRs Try.prog No (Zw W) W laws_FnExactFactorSetOfChoice.fn.ins (l0_0, a1, ()) [.agg #[v0_0], .int .i64 a1] No := (args_agg1 r0_0 (args_one (t := .int .i64) rfl args_nil))
  exact law_true (c := laws_FnExactFactorSetOfChoice.con) laws_FnExactFactorSetOfChoice.valid (e.trans hk) ha rfl (fun y hy => by cases hy; rfl)
set_option maxRecDepth 100000 in
theorem lifted (os : Os) (started : os.Started) (H : Type) (enc : TypeId × Value → H) :
    ReturnsInHanded {} Try.checked os 6 .any (Rows.fnExactFactorSetOfChoiceSpec.pre6 enc Try.prog Try.f6 Rows.fnExactFactorSetOfChoiceRow.domain false) (Rows.fnExactFactorSetOfChoiceSpec.post enc Try.prog Try.f6 false true false false) := by
  refine returnsInHanded_of_change_sized (C := Try.checked) own started (by kernel_rfl) Try.func6
    (ChangeSpec.witness6 (enc := enc) (C := Try.checked) false ⟨#[], #[.agg #[.slice none 0 0], .int .i64 0], []⟩ 8 (by kernel_rfl) (by kernel_rfl) (by kernel_rfl) (by kernel_rfl)) ?_
  intro W base args ds gs before hval0 hW hcnd hsz0 _
  have hsz : (DataW.weightsEach Try.prog (Try.f6.params.toList ++ Rows.fnExactFactorSetOfChoiceSpec.plain.varTypes Try.prog) (ds ++ gs)).all (· ≤ reachBytes) = true := hsz0
  have hval : ∀ (j : Nat) t v, Try.f6.params[j]? = some t → args[j]? = some v → Value.okWide Try.prog W .any base t v := hval0
  have hW' := hW
  obtain ⟨p, q, hA0, hV, rfl, hfz, hnd⟩ := hW
  have hA : DataW.TrodAll enc Try.prog W 0 (fun _ => true) true Try.f6.params.toList args.toList ds p := hA0
  rw [Try.params6] at hA hval hsz
  obtain ⟨v0, vs0, d0, ds0, p0, q0, hargs, rfl, rfl, h0, tr0⟩ := trodAll_cons hA
  obtain ⟨v1, vs1, d1, ds1, p1, q1, rfl, rfl, rfl, h1, tr1⟩ := trodAll_cons tr0
  obtain ⟨rfl, rfl, rfl⟩ := trodAll_nil tr1
  obtain rfl : args = #[v0, v1] := by cases args; simp_all
  obtain ⟨rfl, rfl⟩ := trodVars_none hV
  have k0 := h0
  have lt0 : ∀ x ∈ p0, x.block < W.heap.size := by obtain ⟨m, hm⟩ := k0; exact DataW.trod_lt m _ _ _ hm
  obtain ⟨v0_0, z0_0, n0, rfl, t0_0⟩ := open_agg1 Try.underlying24 (by kernel_rfl) (by kernel_rfl) (hval 0 24 v0 rfl rfl) h0
  obtain ⟨l0_0, m0_0, w0_0, r0_0⟩ := come_rows Try.underlying22 Try.underlying25 Try.underlying2 (by kernel_rfl) (by kernel_rfl) t0_0
  obtain ⟨a1, rfl, rfl, rfl, w1⟩ := open_int Try.underlying2 (hval 1 2 v1 rfl rfl) h1
  clear hA0 hval0 hsz0 hsz
  have hk := Pure.FnExactFactorSetOfChoice_pure l0_0 a1 m0_0 w0_0 w1
  have hk : laws_FnExactFactorSetOfChoice.f l0_0 a1 = some true := hk
  refine (called W r0_0 a1 hk).mono fun e W' ⟨he, bel⟩ => ?_
  subst he
  exact ⟨_, rfl, _, _, _, [], _, [], hW', trodAll_mk1 (shut_bool Try.underlying4 _), (trodAll_cons_mk (Below.trod laidOut (by kernel_rfl) (of_decide_eq_true (by kernel_rfl)) k0 bel lt0) (trodAll_cons_mk (shut_int Try.underlying2 w1) trodAll_mk0)), rfl, bel.frame _, fun h => by cases h⟩
theorem closed : joinedFacts Try.pinned.checked.prog 6 Try.f6 Rows.fnExactFactorSetOfChoiceSpec Rows.fnExactFactorSetOfChoiceRow = true := by
  unfold joinedFacts
  rw [shut.mayEnter, show (Rows.fnExactFactorSetOfChoiceRow.lifted == Try.pinned.checked.prog.liftsFinal) = true from shut.lifted, show (Try.pinned.checked.prog.make == some Rows.fnExactFactorSetOfChoiceRow.make) = true from shut.make]
  kernel_rfl
theorem over : Rows.fnExactFactorSetOfChoiceRow.holds Try.pinned (OpenSpec.ofChange Rows.fnExactFactorSetOfChoiceSpec) :=
  OpenClaim.holds_of_wide 6 Try.f6 rfl rfl rfl rfl rfl rfl rfl ⟨rfl, rfl, rfl, rfl, rfl⟩ rfl rfl rfl rfl rfl (by kernel_rfl) Try.func6 closed
    (of_decide_eq_true (by kernel_rfl)) (by unfold Func.isWrapper; first | (rw [if_pos (by decide +kernel)]; kernel_rfl) | (rw [if_neg (by decide +kernel)]; exact ⟨rfl, rfl⟩))
    (fun os started H enc _ => lifted os started H enc)
theorem proved : Rows.FnExactFactorSetOfChoiceSaid := over
#print axioms proved
end Go.Proofs.Ytlkdhmijgpadaaa.fnExactFactorSetOfChoice
namespace Go.Proofs.Ytlkdhmijgpadaaa
theorem fnExactFactorSetOfChoice_holds : Rows.FnExactFactorSetOfChoiceSaid := fnExactFactorSetOfChoice.proved
end Go.Proofs.Ytlkdhmijgpadaaa
