/- The row of the law Steps: for every input it returns true, and each argument reads behind the call as it read before. No condition. -/
import Derived.Test.YtdamfbighdkcbaaGreatRows
import Derived.WalkKit
import Derived.ProofKit
import Derived.OpenShut
import Derived.ShutString
import Derived.ChangeOld
import Derived.Below
import Derived.SizedLaws
import Derived.Carry
import Derived.Lib.SmallJoins
import Derived.Test.YtdamfbighdkcbaaGreatKSteps7
import Derived.Test.YtdamfbighdkcbaaGreatKSteps11
set_option linter.unusedVariables false
set_option linter.unusedSimpArgs false
namespace Go.Proofs.YtdamfbighdkcbaaGreat.fnSteps
open Go.ChangeShapes Go.WideShapes Go.ChangeAt Go.RowKit Go.Joins
open Go.ChangeMaps (open_string shut_string)
open Go.Proofs.YtdamfbighdkcbaaGreat.D Go.Proofs.YtdamfbighdkcbaaGreat.P
set_option linter.unusedVariables false
theorem own:ownKnob Tryz.prog.godebug=none:=by kernel_rfl
theorem laidOut:laidOutB Tryz.prog=true:=by kernel_rfl
theorem called (W:World) {l0:List Int} {v0:Value} (r0:Rep (Zw W) W false (.sl 5 (.int .u8)) l0 [v0] No) (hk:ZO.f l0=some true):Calls Tryz.prog 4 #[v0] W λ e W'=>e = .returned (.bool true)/\Below W.heap.size W W':=by
 have e:ZO.con.f (l0,())=ZO.f l0:=by kernel_rfl
 have ha:ASRs Tryz.prog No (Zw W) W ZO.fn.ins (l0,()) [v0] No:=(ZmD r0 ZmC)
 exact Zm1 (c:=ZO.con) ZO.valid (e.trans hk) ha rfl (λ y hy=>by cases hy;rfl)
set_option maxRecDepth 100000 in
theorem lifted (os:Os) (started:os.Started) (H:Type) (enc:TypeId×Value->H) :
  ReturnsInHanded {} Tryz.checked os 4 .any (Rows.fnStepsSpec.pre6 enc Tryz.prog Tryz.f4 Rows.fnStepsRow.domain false) (Rows.fnStepsSpec.post enc Tryz.prog Tryz.f4 false true false false):=by
 refine returnsInHanded_of_change_sized (C:=Tryz.checked) own started (by kernel_rfl) Tryz.func4
  (ChangeSpec.witness6 (enc:=enc) (C:=Tryz.checked) false ⟨#[],#[.slice none 0 0],[]⟩ 8 (by kernel_rfl) (by kernel_rfl) (by kernel_rfl) (by kernel_rfl)) ?_
 intro W base args ds gs before hval0 hW hcnd hsz0 _;have hsz:(DataW.weightsEach Tryz.prog (Tryz.f4.params.toList++Rows.fnStepsSpec.plain.varTypes Tryz.prog) (ds++gs)).all (· <= reachBytes)=true:=hsz0;have hval:∀(j:Nat) t v,Tryz.f4.params[j]? = some t->args[j]? = some v->Value.okWide Tryz.prog W .any base t v:=hval0;have hW':=hW;obtain⟨p,q,hA0,hV,rfl,hfz,hnd⟩:=hW;have hA:DataW.TrodAll enc Tryz.prog W 0 (λ _=>true) true Tryz.f4.params.toList args.toList ds p:=hA0;rw[Tryz.params4]at hA hval hsz;obtain⟨v0,vs0,d0,ds0,p0,q0,hargs,rfl,rfl,h0,tr0⟩:=trodAll_cons hA;obtain⟨rfl,rfl,rfl⟩:=trodAll_nil tr0;obtain rfl:args = #[v0]:=by cases args;simp_all
 obtain⟨rfl,rfl⟩:=trodVars_none hV;have k0:=h0;have lt0:∀x∈p0,x.block<W.heap.size:=by obtain⟨m,hm⟩:=k0;exact DataW.trod_lt m _ _ _ hm
 obtain⟨aa0,al0,ac0,rfl⟩:=okWide_slice Tryz.underlying43 (hval 0 43 v0 rfl rfl);obtain⟨n0,t0⟩:=h0;have t0' : DataW.trod enc Tryz.prog W 0 (λ _=>true) true n0 43 [.slice aa0 al0 ac0]=some _:=t0;obtain⟨l0,m0,w0,r0⟩:=Zlk Tryz.underlying43 Tryz.underlying5 (by kernel_rfl) t0'
 clear hA0 hval0 hsz0 hsz
 have hk:=Pure.FnSteps_pure l0 m0 w0;have hk:ZO.f l0=some true:=hk;refine(called W r0 hk).mono λ e W' ⟨he,bel⟩=>?_
 subst he;exact⟨_,rfl,_,_,_,[],_,[],hW', trodAll_mk1 (shut_bool Tryz.underlying4 _),(trodAll_cons_mk (Below.trod laidOut (by kernel_rfl) (of_decide_eq_true (by kernel_rfl)) k0 bel lt0) trodAll_mk0),rfl,bel.frame _,λ h=>by cases h⟩
theorem closed:joinedFacts Tryz.pinned.checked.prog 4 Tryz.f4 Rows.fnStepsSpec Rows.fnStepsRow=true:=by
 unfold joinedFacts;rw[shut.mayEnter,show(Rows.fnStepsRow.lifted == Tryz.pinned.checked.prog.liftsFinal)=true from shut.lifted,show(Tryz.pinned.checked.prog.make == some Rows.fnStepsRow.make)=true from shut.make]
 kernel_rfl
theorem over:Rows.fnStepsRow.holds Tryz.pinned (OpenSpec.ofChange Rows.fnStepsSpec):=
 OpenClaim.holds_of_wide 4 Tryz.f4 rfl rfl rfl rfl rfl rfl rfl ⟨rfl,rfl,rfl,rfl,rfl⟩ rfl rfl rfl rfl rfl (by kernel_rfl) Tryz.func4 closed
  (of_decide_eq_true (by kernel_rfl)) (by unfold Func.isWrapper;first|(rw[if_pos (by decide +kernel)];kernel_rfl)|(rw[if_neg (by decide +kernel)];exact⟨rfl,rfl⟩))
  (λ os started H enc _=>lifted os started H enc)
theorem proved:Rows.FnStepsSaid:=over
#print axioms proved
end Go.Proofs.YtdamfbighdkcbaaGreat.fnSteps
namespace Go.Proofs.YtdamfbighdkcbaaGreat
theorem fnSteps_holds:Rows.FnStepsSaid:=fnSteps.proved
end Go.Proofs.YtdamfbighdkcbaaGreat
