/- The row of the law OrderOfCohomology: for every input it returns true, and each argument reads behind the call as it read before. No condition. -/
import Derived.Test.YtdamfbighdkcbaaRows
import Derived.WalkKit
import Derived.ProofKit
import Derived.OpenShut
import Derived.ShutString
import Derived.ChangeOld
import Derived.Below
import Derived.SizedLaws
import Derived.Carry
import Derived.Lib.SmallJoins
import Derived.Test.YtdamfbighdkcbaaKOrderOfCohomology5
import Derived.Test.YtdamfbighdkcbaaKOrderOfCohomology7
import Derived.Test.YtdamfbighdkcbaaKOrderOfCohomology8
set_option linter.unusedVariables false
set_option linter.unusedSimpArgs false
namespace Go.Proofs.Ytdamfbighdkcbaa.fnExactOrderOfCohomology
open Go.ChangeShapes Go.WideShapes Go.ChangeAt Go.RowKit Go.Joins
open Go.ChangeMaps (open_string shut_string)
open Go.Proofs.Ytdamfbighdkcbaa.D Go.Proofs.Ytdamfbighdkcbaa.P
set_option linter.unusedVariables false
theorem own:ownKnob Try.prog.godebug=none:=by kernel_rfl
theorem laidOut:laidOutB Try.prog=true:=by kernel_rfl
theorem called (W:World) {l0_0:List (List Int)} {v0_0:Value} (r0_0:Rep (Zw W) W false (.sl 25 (.sl 2 (.int .i64))) l0_0 [v0_0] No) {a1_0:Int} {v1_0:Value} (r1_0:Rep (Zw W) W false (.int .i64) a1_0 [v1_0] No) {l1_1:List Int} {v1_1:Value} (r1_1:Rep (Zw W) W false (.sl 2 (.int .i64)) l1_1 [v1_1] No) (a2:Int) (hk:Zm.f l0_0 a1_0 l1_1 a2=some true):Calls Try.prog 3 #[.agg #[v0_0],.agg #[v1_0,v1_1],.int .i64 a2] W fun e W' => e = .returned (.bool true)∧Below W.heap.size W W' := by
 have e:Zm.con.f (l0_0,a1_0,l1_1,a2,())=Zm.f l0_0 a1_0 l1_1 a2:=by kernel_rfl
 have ha:ASRs Try.prog No (Zw W) W Zm.fn.ins (l0_0,a1_0,l1_1,a2,()) [.agg #[v0_0],.agg #[v1_0,v1_1],.int .i64 a2] No:=(Zjg r0_0 (Zjh r1_0 r1_1 (Zkz (t := .int .i64) rfl Zky)))
 exact ZkS (c:=Zm.con) Zm.valid (e.trans hk) ha rfl (fun y hy=>by cases hy;rfl)
set_option maxRecDepth 100000 in
theorem lifted (os:Os) (started:os.Started) (H:Type) (enc:TypeId×Value→H) :
  ReturnsInHanded {} Try.checked os 3 .any (Rows.fnExactOrderOfCohomologySpec.pre6 enc Try.prog Try.f3 Rows.fnExactOrderOfCohomologyRow.domain false) (Rows.fnExactOrderOfCohomologySpec.post enc Try.prog Try.f3 false true false false):=by
 refine returnsInHanded_of_change_sized (C:=Try.checked) own started (by kernel_rfl) Try.func3
  (ChangeSpec.witness6 (enc:=enc) (C:=Try.checked) false ⟨#[],#[.agg #[.slice none 0 0],.agg #[.int .i64 0,.slice none 0 0],.int .i64 0],[]⟩ 8 (by kernel_rfl) (by kernel_rfl) (by kernel_rfl) (by kernel_rfl)) ?_
 intro W base args ds gs before hval0 hW hcnd hsz0 _
 have hsz:(DataW.weightsEach Try.prog (Try.f3.params.toList++Rows.fnExactOrderOfCohomologySpec.plain.varTypes Try.prog) (ds++gs)).all (· ≤ reachBytes)=true:=hsz0
 have hval:∀(j:Nat) t v,Try.f3.params[j]? = some t→args[j]? = some v→Value.okWide Try.prog W .any base t v:=hval0
 have hW' := hW
 obtain⟨p,q,hA0,hV,rfl,hfz,hnd⟩:=hW
 have hA:DataW.TrodAll enc Try.prog W 0 (fun _=>true) true Try.f3.params.toList args.toList ds p:=hA0
 rw[Try.params3]at hA hval hsz
 obtain⟨v0,vs0,d0,ds0,p0,q0,hargs,rfl,rfl,h0,tr0⟩:=trodAll_cons hA
 obtain⟨v1,vs1,d1,ds1,p1,q1,rfl,rfl,rfl,h1,tr1⟩:=trodAll_cons tr0
 obtain⟨v2,vs2,d2,ds2,p2,q2,rfl,rfl,rfl,h2,tr2⟩:=trodAll_cons tr1
 obtain⟨rfl,rfl,rfl⟩:=trodAll_nil tr2
 obtain rfl:args = #[v0,v1,v2]:=by cases args;simp_all
 obtain⟨rfl,rfl⟩:=trodVars_none hV
 have k0:=h0
 have lt0:∀x∈p0,x.block < W.heap.size:=by obtain⟨m,hm⟩:=k0;exact DataW.trod_lt m _ _ _ hm
 obtain⟨v0_0,z0_0,n0,rfl,t0_0⟩:=ZjT Try.underlying24 (by kernel_rfl) (by kernel_rfl) (hval 0 24 v0 rfl rfl) h0
 obtain⟨l0_0,m0_0,w0_0,r0_0⟩:=Zjv Try.underlying22 Try.underlying25 Try.underlying2 (by kernel_rfl) (by kernel_rfl) t0_0
 have k1:=h1
 have lt1:∀x∈p1,x.block < W.heap.size:=by obtain⟨m,hm⟩:=k1;exact DataW.trod_lt m _ _ _ hm
 obtain⟨v1_0,v1_1,z1_0,z1_1,n1,rfl,-,-,t1_0,t1_1⟩:=open_agg2 Try.underlying27 (by kernel_rfl) (by kernel_rfl) (hval 1 27 v1 rfl rfl) h1
 obtain⟨a1_0,w1_0,r1_0⟩:=ZkE Try.underlying2 t1_0
 obtain⟨l1_1,m1_1,w1_1,r1_1⟩:=Zju Try.underlying25 Try.underlying2 (by kernel_rfl) t1_1
 obtain⟨a2,rfl,rfl,rfl,w2⟩:=open_int Try.underlying2 (hval 2 2 v2 rfl rfl) h2
 clear hA0 hval0 hsz0 hsz
 have hk:=Pure.FnExactOrderOfCohomology_pure l0_0 a1_0 l1_1 a2 m0_0 w0_0 w1_0 m1_1 w1_1 w2
 have hk:Zm.f l0_0 a1_0 l1_1 a2=some true:=hk
 refine(called W r0_0 r1_0 r1_1 a2 hk).mono fun e W' ⟨he,bel⟩ => ?_
 subst he
 exact⟨_,rfl,_,_,_,[],_,[],hW', trodAll_mk1 (shut_bool Try.underlying4 _),(trodAll_cons_mk (Below.trod laidOut (by kernel_rfl) (of_decide_eq_true (by kernel_rfl)) k0 bel lt0) (trodAll_cons_mk (Below.trod laidOut (by kernel_rfl) (of_decide_eq_true (by kernel_rfl)) k1 bel lt1) (trodAll_cons_mk (shut_int Try.underlying2 w2) trodAll_mk0))),rfl,bel.frame _,fun h=>by cases h⟩
theorem closed:joinedFacts Try.pinned.checked.prog 3 Try.f3 Rows.fnExactOrderOfCohomologySpec Rows.fnExactOrderOfCohomologyRow=true:=by
 unfold joinedFacts
 rw[shut.mayEnter,show(Rows.fnExactOrderOfCohomologyRow.lifted == Try.pinned.checked.prog.liftsFinal)=true from shut.lifted,show(Try.pinned.checked.prog.make == some Rows.fnExactOrderOfCohomologyRow.make)=true from shut.make]
 kernel_rfl
theorem over:Rows.fnExactOrderOfCohomologyRow.holds Try.pinned (OpenSpec.ofChange Rows.fnExactOrderOfCohomologySpec) :=
 OpenClaim.holds_of_wide 3 Try.f3 rfl rfl rfl rfl rfl rfl rfl ⟨rfl,rfl,rfl,rfl,rfl⟩ rfl rfl rfl rfl rfl (by kernel_rfl) Try.func3 closed
  (of_decide_eq_true (by kernel_rfl)) (by unfold Func.isWrapper;first|(rw[if_pos (by decide +kernel)];kernel_rfl)|(rw[if_neg (by decide +kernel)];exact⟨rfl,rfl⟩))
  (fun os started H enc _=>lifted os started H enc)
theorem proved:Rows.FnExactOrderOfCohomologySaid:=over
#print axioms proved
end Go.Proofs.Ytdamfbighdkcbaa.fnExactOrderOfCohomology
namespace Go.Proofs.Ytdamfbighdkcbaa
theorem fnExactOrderOfCohomology_holds:Rows.FnExactOrderOfCohomologySaid:=fnExactOrderOfCohomology.proved
end Go.Proofs.Ytdamfbighdkcbaa
