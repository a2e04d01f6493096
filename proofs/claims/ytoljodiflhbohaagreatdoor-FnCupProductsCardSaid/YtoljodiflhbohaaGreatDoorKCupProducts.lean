/- The row of the law CupProducts: for every input it returns true, and each argument reads behind the call as it read before. No condition. -/
import Derived.Test.YtoljodiflhbohaaGreatDoorRows
import Derived.Test.YtoljodiflhbohaaGreatDoorCards
import Derived.Test.YtoljodiflhbohaaGreatDoorTie
import Derived.Handed
import Derived.Lay
import Derived.LaidLaws
import Derived.MakeChecks
import Derived.SevenTiedAt
import Derived.LaidHandle
import Derived.ChangeMaps5
import Derived.WalkKit
import Derived.ProofKit
import Derived.OpenShut
import Derived.ShutString
import Derived.ChangeOld
import Derived.Below
import Derived.SizedLaws
import Derived.Carry
import Derived.Lib.SmallJoins
import Derived.Test.YtoljodiflhbohaaGreatDoorKCupProducts3
import Derived.Test.YtoljodiflhbohaaGreatDoorKCupProducts7
import Derived.Test.YtoljodiflhbohaaGreatDoorKCupProducts9
set_option linter.unusedVariables false
set_option linter.unusedSimpArgs false
namespace Go.Proofs.YtoljodiflhbohaaGreatDoor.fnCupProducts
open Go.ChangeShapes Go.WideShapes Go.ChangeAt Go.RowKit Go.Joins
open Go.ChangeMaps (open_string shut_string)
open Go.Proofs.YtoljodiflhbohaaGreatDoor.D Go.Proofs.YtoljodiflhbohaaGreatDoor.P
set_option linter.unusedVariables false
theorem own:ownKnob Tryz.prog.godebug=none:=by kernel_rfl
theorem laidOut:laidOutB Tryz.prog=true:=by kernel_rfl
def laid : List (String × DataW Unit) := [("math/bits.deBruijn32tab", Rows.laid_math_bits_deBruijn32tab), ("math/bits.deBruijn64tab", Rows.laid_math_bits_deBruijn64tab), ("internal/strconv.uint64pow10", Rows.laid_internal_strconv_uint64pow10)]
theorem called (W:World) {l0:List Int} {v0:Value} (r0:Rep (Zw W) W false (.sl 5 (.int .u8)) l0 [v0] No) (hk:Zd.f l0=some true):Calls Tryz.prog 3 #[v0] W fun e W' => e = .returned (.bool true)∧Below W.heap.size W W' := by
 have e:Zd.con.f (l0,())=Zd.f l0:=by kernel_rfl
 have ha:ASRs Tryz.prog No (Zw W) W Zd.fn.ins (l0,()) [v0] No:=(ZjZ r0 ZjY)
 exact Zkb (c:=Zd.con) Zd.valid (e.trans hk) ha rfl (fun y hy=>by cases hy;rfl)
set_option maxRecDepth 100000 in
theorem lifted (os:Os) (started:os.Started) (H:Type) (enc:TypeId×Value→H) :
  ReturnsInHanded {} Tryz.checked os 3 .any (fun w args=>(Rows.fnCupProductsSpec.pre enc Tryz.prog Tryz.f3 [] false w args∧laidMetH Tryz.prog laid w)∧sizedMet enc Tryz.prog Tryz.f3 (OpenSpec.ofChange Rows.fnCupProductsSpec) false w args) (Rows.fnCupProductsSpec.post enc Tryz.prog Tryz.f3 false true false false):=by
 refine returnsInHanded_of_change_and (C:=Tryz.checked) (X:=fun w _=>laidMetH Tryz.prog laid w) (fun _ _ _ hh h=>h.of_heap hh) own started (by kernel_rfl) Tryz.func3
  (ChangeSpec.witness_shaped (enc:=enc) (C:=Tryz.checked) (os:=os) (X:=fun w _=>laidMetH Tryz.prog laid w) false (World.laidAll Tryz.prog os laid) #[.slice none 0 0] 8 (World.laidAll_os _ _ _)
   (World.shaped_of_ZipB (by kernel_rfl) (by kernel_rfl)) (by kernel_rfl) (by kernel_rfl) (by kernel_rfl)
   (by rw[MakeChecks.laidMetH_plain _ _ _ (by kernel_rfl)];exact laidMet_laidAll _ (by kernel_rfl) (by kernel_rfl))) ?_
 intro W base args ds gs before hval0 hW hcnd hsz0 hL _
 have hsz:(DataW.weightsEach Tryz.prog (Tryz.f3.params.toList++Rows.fnCupProductsSpec.plain.varTypes Tryz.prog) (ds++gs)).all (· ≤ reachBytes)=true:=hsz0
 have hval:∀(j:Nat) t v,Tryz.f3.params[j]? = some t→args[j]? = some v→Value.okWide Tryz.prog W .any base t v:=hval0
 have hW' := hW
 obtain⟨p,q,hA0,hV,rfl,hfz,hnd⟩:=hW
 have hA:DataW.TrodAll enc Tryz.prog W 0 (fun _=>true) true Tryz.f3.params.toList args.toList ds p:=hA0
 rw[Tryz.params3]at hA hval hsz
 obtain⟨v0,vs0,d0,ds0,p0,q0,hargs,rfl,rfl,h0,tr0⟩:=trodAll_cons hA
 obtain⟨rfl,rfl,rfl⟩:=trodAll_nil tr0
 obtain rfl:args = #[v0]:=by cases args;simp_all
 obtain⟨rfl,rfl⟩:=trodVars_none hV
 have k0:=h0
 have lt0:∀x∈p0,x.block < W.heap.size:=by obtain⟨m,hm⟩:=k0;exact DataW.trod_lt m _ _ _ hm
 obtain⟨aa0,al0,ac0,rfl⟩:=okWide_slice Tryz.underlying22 (hval 0 22 v0 rfl rfl)
 obtain⟨n0,t0⟩:=h0
 have t0' : DataW.trod enc Tryz.prog W 0 (fun _=>true) true n0 22 [.slice aa0 al0 ac0]=some _:=t0
 obtain⟨l0,m0,w0,r0⟩:=ZiV Tryz.underlying22 Tryz.underlying5 (by kernel_rfl) t0'
 clear hA0 hval0 hsz0 hsz
 have hk:=Pure.FnCupProducts_pure l0 m0 w0
 have hk:Zd.f l0=some true:=hk
 refine(called W r0 hk).mono fun e W' ⟨he,bel⟩ => ?_
 subst he
 exact⟨_,rfl,_,_,_,[],_,[],hW', trodAll_mk1 (shut_bool Tryz.underlying4 _),(trodAll_cons_mk (Below.trod laidOut (by kernel_rfl) (of_decide_eq_true (by kernel_rfl)) k0 bel lt0) trodAll_mk0),rfl,bel.frame _,fun h=>by cases h⟩
theorem closed:joinedFacts Tryz.pinned.checked.prog 3 Tryz.f3 Rows.fnCupProductsSpec Rows.fnCupProductsRow=true:=by
 unfold joinedFacts
 rw[shut.mayEnter,show(Rows.fnCupProductsRow.lifted == Tryz.pinned.checked.prog.liftsFinal)=true from shut.lifted,show(Tryz.pinned.checked.prog.make == some Rows.fnCupProductsRow.make)=true from shut.make]
 kernel_rfl
theorem over:Rows.fnCupProductsRow.holds Tryz.pinned (OpenSpec.ofChange Rows.fnCupProductsSpec) :=
 OpenClaim.holds_of_wide 3 Tryz.f3 rfl rfl rfl rfl rfl rfl rfl ⟨rfl,rfl,rfl,rfl,rfl⟩ rfl rfl rfl rfl rfl (by kernel_rfl) Tryz.func3 closed
  (of_decide_eq_true (by kernel_rfl)) (by unfold Func.isWrapper;first|(rw[if_pos (by decide +kernel)];kernel_rfl)|(rw[if_neg (by decide +kernel)];exact⟨rfl,rfl⟩))
  (fun os started H enc _=>lifted os started H enc)
theorem card:Rows.FnCupProductsCardSaid :=
 Claim7.holds_tied_plain_at .later [] [.data, .data, .data] true (true, "3a630b20bfb4f537e57908834496947a565cce767c6eb16106ac684d48049c84") false over (fun _ h => by cases h) (by kernel_rfl) (fun _ h => by cases h) fnCupProducts_row_tie rfl ⟨rfl, rfl⟩ (by kernel_rfl) rfl
  (fun f fn hf hfn=>by
   obtain rfl:f=3:=Option.some.inj ((show Tryz.prog.funcNamed Rows.fnCupProductsRow.func=some 3 by kernel_rfl).symm.trans hf) |>.symm
   obtain rfl:fn=Tryz.f3:=(Option.some.inj (Tryz.func3.symm.trans hfn)).symm
   exact⟨by kernel_rfl,fun j t ht=>by
    rw[Tryz.params3]at ht
    have hm:t∈[22]:=by simpa using Array.mem_of_getElem? ht
    have hall:([22].all fun u => !Tryz.prog.wantsStandIn u)=true:=by kernel_rfl
    exact(show Tryz.prog.wantsStandIn t=false by simpa using List.all_eq_true.1 hall t hm)⟩)
  (by kernel_rfl)
#print axioms card
end Go.Proofs.YtoljodiflhbohaaGreatDoor.fnCupProducts
namespace Go.Proofs.YtoljodiflhbohaaGreatDoor
theorem fnCupProducts_holds:Rows.FnCupProductsCardSaid:=fnCupProducts.card
end Go.Proofs.YtoljodiflhbohaaGreatDoor
