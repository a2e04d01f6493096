/- The row of the law Fixed: for every input it returns true, and each argument reads behind the call as it read before. No condition. -/
import Derived.Test.YthmcpmnhdbeahaaGreatRows
import Derived.WalkKit
import Derived.ProofKit
import Derived.OpenShut
import Derived.ShutString
import Derived.ChangeOld
import Derived.Below
import Derived.SizedLaws
import Derived.Carry
import Derived.Lib.SmallJoins
import Derived.Test.YthmcpmnhdbeahaaGreatKFixed3
import Derived.Test.YthmcpmnhdbeahaaGreatKFixed5
import Derived.Test.YthmcpmnhdbeahaaGreatKFixed8
set_option linter.unusedVariables false
set_option linter.unusedSimpArgs false
namespace Go.Proofs.YthmcpmnhdbeahaaGreat.fnFixed
open Go.ChangeShapes Go.WideShapes Go.ChangeAt Go.RowKit Go.Joins
open Go.ChangeMaps (open_string shut_string)
open Go.Proofs.YthmcpmnhdbeahaaGreat.D Go.Proofs.YthmcpmnhdbeahaaGreat.P
set_option linter.unusedVariables false
theorem own:ownKnob Tryz.prog.godebug=none:=by kernel_rfl
theorem laidOut:laidOutB Tryz.prog=true:=by kernel_rfl
theorem called (W:World) {l0:List Int} {v0:Value} (r0:Rep (Zw W) W false (.sl 5 (.int .u8)) l0 [v0] No) (hk:Zas.f l0=some true):Calls Tryz.prog 6 #[v0] W fun e W' => e = .returned (.bool true)∧Below W.heap.size W W' := by
 have e:Zas.con.f (l0,())=Zas.f l0:=by kernel_rfl
 have ha:ASRs Tryz.prog No (Zw W) W Zas.fn.ins (l0,()) [v0] No:=(Zjy r0 Zjx)
 exact ZjR (c:=Zas.con) Zas.valid (e.trans hk) ha rfl (fun y hy=>by cases hy;rfl)
set_option maxRecDepth 100000 in
theorem lifted (os:Os) (started:os.Started) (H:Type) (enc:TypeId×Value→H) :
  ReturnsInHanded {} Tryz.checked os 6 .any (Rows.fnFixedSpec.pre6 enc Tryz.prog Tryz.f6 Rows.fnFixedRow.domain false) (Rows.fnFixedSpec.post enc Tryz.prog Tryz.f6 false true false false):=by
 refine returnsInHanded_of_change_sized (C:=Tryz.checked) own started (by kernel_rfl) Tryz.func6
  (ChangeSpec.witness6 (enc:=enc) (C:=Tryz.checked) false ⟨#[],#[.slice none 0 0],[]⟩ 8 (by kernel_rfl) (by kernel_rfl) (by kernel_rfl) (by kernel_rfl)) ?_
 intro W base args ds gs before hval0 hW hcnd hsz0 _
 have hsz:(DataW.weightsEach Tryz.prog (Tryz.f6.params.toList++Rows.fnFixedSpec.plain.varTypes Tryz.prog) (ds++gs)).all (· ≤ reachBytes)=true:=hsz0
 have hval:∀(j:Nat) t v,Tryz.f6.params[j]? = some t→args[j]? = some v→Value.okWide Tryz.prog W .any base t v:=hval0
 have hW' := hW
 obtain⟨p,q,hA0,hV,rfl,hfz,hnd⟩:=hW
 have hA:DataW.TrodAll enc Tryz.prog W 0 (fun _=>true) true Tryz.f6.params.toList args.toList ds p:=hA0
 rw[Tryz.params6]at hA hval hsz
 obtain⟨v0,vs0,d0,ds0,p0,q0,hargs,rfl,rfl,h0,tr0⟩:=trodAll_cons hA
 obtain⟨rfl,rfl,rfl⟩:=trodAll_nil tr0
 obtain rfl:args = #[v0]:=by cases args;simp_all
 obtain⟨rfl,rfl⟩:=trodVars_none hV
 have k0:=h0
 have lt0:∀x∈p0,x.block < W.heap.size:=by obtain⟨m,hm⟩:=k0;exact DataW.trod_lt m _ _ _ hm
 obtain⟨aa0,al0,ac0,rfl⟩:=okWide_slice Tryz.underlying22 (hval 0 22 v0 rfl rfl)
 obtain⟨n0,t0⟩:=h0
 have t0' : DataW.trod enc Tryz.prog W 0 (fun _=>true) true n0 22 [.slice aa0 al0 ac0]=some _:=t0
 obtain⟨l0,m0,w0,r0⟩:=Ziw Tryz.underlying22 Tryz.underlying5 (by kernel_rfl) t0'
 clear hA0 hval0 hsz0 hsz
 have hk:=Pure.FnFixed_pure l0 m0 w0
 have hk:Zas.f l0=some true:=hk
 refine(called W r0 hk).mono fun e W' ⟨he,bel⟩ => ?_
 subst he
 exact⟨_,rfl,_,_,_,[],_,[],hW', trodAll_mk1 (shut_bool Tryz.underlying4 _),(trodAll_cons_mk (Below.trod laidOut (by kernel_rfl) (of_decide_eq_true (by kernel_rfl)) k0 bel lt0) trodAll_mk0),rfl,bel.frame _,fun h=>by cases h⟩
theorem closed:joinedFacts Tryz.pinned.checked.prog 6 Tryz.f6 Rows.fnFixedSpec Rows.fnFixedRow=true:=by
 unfold joinedFacts
 rw[shut.mayEnter,show(Rows.fnFixedRow.lifted == Tryz.pinned.checked.prog.liftsFinal)=true from shut.lifted,show(Tryz.pinned.checked.prog.make == some Rows.fnFixedRow.make)=true from shut.make]
 kernel_rfl
theorem over:Rows.fnFixedRow.holds Tryz.pinned (OpenSpec.ofChange Rows.fnFixedSpec) :=
 OpenClaim.holds_of_wide 6 Tryz.f6 rfl rfl rfl rfl rfl rfl rfl ⟨rfl,rfl,rfl,rfl,rfl⟩ rfl rfl rfl rfl rfl (by kernel_rfl) Tryz.func6 closed
  (of_decide_eq_true (by kernel_rfl)) (by unfold Func.isWrapper;first|(rw[if_pos (by decide +kernel)];kernel_rfl)|(rw[if_neg (by decide +kernel)];exact⟨rfl,rfl⟩))
  (fun os started H enc _=>lifted os started H enc)
theorem proved:Rows.FnFixedSaid:=over
#print axioms proved
end Go.Proofs.YthmcpmnhdbeahaaGreat.fnFixed
namespace Go.Proofs.YthmcpmnhdbeahaaGreat
theorem fnFixed_holds:Rows.FnFixedSaid:=fnFixed.proved
end Go.Proofs.YthmcpmnhdbeahaaGreat
